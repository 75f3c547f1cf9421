/-
  The logic on data: ranges over functions. Iterators over data; the walk of an iterator's body; the loop over an iterator; blocks that are frozen.
-/
import Derived.Test.YtajokeimipllcaaDn
import Derived.Scope
set_option linter.unusedSimpArgs false
set_option linter.unusedVariables false
namespace Go.Dl
open Go.Ed Go.RowKit

/-! ### What a state knows of its own memory -/
section
variable {P : Program} {X : Fr} {w0 : World} {N : Nat} {S : St} {E : Env} {a : Act} {w : World}
theorem Sim.foot_lt (h : Sim X w0 N S E a w) {b : Nat} (hf : foot E b) : b < w.heap.size ∧ ¬ E.I b := by
  rcases hf with ⟨t, ht⟩ | ⟨k, v, hv, hb⟩
  · exact h.bl t b ht
  · exact ⟨(h.al k v b hv hb).1, (h.al k v b hv hb).2.1⟩
theorem Sim.foot_new (h : Sim X w0 N S E a w) {b : Nat} (hf : foot E b) : w0.heap.size ≤ b ∨ X.X b := by
  rcases hf with ⟨t, ht⟩ | ⟨k, v, hv, hb⟩
  · cases hq : S.blks t with
    | none => rw [h.bn t hq] at ht; cases ht
    | some y =>
      obtain ⟨b', vs, h1, _, _, h4⟩ := h.blk t y.1 y.2 hq
      rw [h1] at ht; cases ht
      exact h4
  · cases hq : S.arrs k with
    | none => rw [h.an k hq] at hv; cases hv
    | some y =>
      obtain ⟨v', us, h1, _, _, _, h5⟩ := h.arr k y.1 y.2.1 y.2.2 hq
      rw [h1] at hv; cases hv
      exact h5 b hb
theorem Sim.foot_cell (h : Sim X w0 N S E a w) {b : Nat} (hf : foot E b) : ∃ o : Obj, w.heap[b]? = some o ∧ o.isMem = true := by
  rcases hf with ⟨t, ht⟩ | ⟨k, v, hv, hb⟩
  · exact h.cellB ht
  · exact h.cellL hv hb
theorem Sim.foot_not (h : Sim X w0 N S E a w) {b : Nat} {o : Obj} (ho : w.heap[b]? = some o) (hc : o.isMem = false) : ¬ foot E b := fun hf => by
  obtain ⟨o', h1, h2⟩ := h.foot_cell hf
  rw [ho] at h1; cases h1; rw [hc] at h2; cases h2
/-- from here on -/
theorem Sim.base (h : Sim X w0 N S E a w) {X' : Fr} {w' : World} {ds : List Deferred} (hsz : w.heap.size ≤ w'.heap.size) (hk : ∀ b, E.I b ∨ foot E b → w'.heap[b]? = w.heap[b]?)
    (hX : ∀ b, foot E b → X'.X b) (hI0 : ∀ b, X'.I0 b → E.I b) (hI1 : ∀ b, E.I b → X'.I0 b) (hB : ∀ t, t ∈ X'.B0 → E.B t = some (X'.G t)) (hfr : Frk X' w' E.I ds w') : Sim X' w' N S E { a with defers := ds } w' := by
  have hle : Env.Le w w' E E := ⟨fun b hi => hk b (.inl hi), fun _ h => h, fun _ _ h => h, fun _ _ h => h⟩
  refine ⟨Chg.refl _ _, hfr, h.sz, fun t => (h.slot t).mono hle, fun t e cs ht => ?_, h.inj, fun t b ht => ?_, fun k e n rows hr => ?_, fun k v b hv hb' => ?_, h.ai, h.bn, h.an, fun b hi => Nat.lt_of_lt_of_le (h.il b hi) hsz, hI0, fun b hb => .inl (hI1 b hb), hB⟩
  · obtain ⟨b, vs, h1, h2, h3, h4⟩ := h.blk t e cs ht
    exact ⟨b, vs, h1, (hk b (.inr (.inl ⟨t, h1⟩))).trans h2, h3.mono hle, .inr (hX b (.inl ⟨t, h1⟩))⟩
  · exact ⟨Nat.lt_of_lt_of_le (h.bl t b ht).1 hsz, (h.bl t b ht).2⟩
  · obtain ⟨v, us, h1, h2, h3, h4, h5⟩ := h.arr k e n rows hr
    exact ⟨v, us, h1, ownA_keep h2 fun c hc => hk c (.inr (.inr ⟨k, v, h1, hc⟩)), ⟨h3.1, fun j x u hx hu => (h3.2 j x u hx hu).mono (fun b hi => hk b (.inl hi)) fun _ h => h⟩, h4, fun b hb => .inr (hX b (.inr ⟨k, v, h1, hb⟩))⟩
  · exact ⟨Nat.lt_of_lt_of_le (h.al k v b hv hb').1 hsz, (h.al k v b hv hb').2⟩
/-- the outside has changed; more stays from now on -/
theorem Sim.widen (h : Sim X w0 N S E a w) {w' : World} {F' : Nat → Prop} (hsz : w.heap.size ≤ w'.heap.size) (hk : ∀ b, E.I b ∨ foot E b → w'.heap[b]? = w.heap[b]?) (hchg : Chg X.X w0 w') (hfr : Frk X w0 (fun b => E.I b ∨ F' b) a.defers w')
    (hF : ∀ b, F' b → b < w'.heap.size ∧ ¬ foot E b ∧ w0.heap.size ≤ b) : Sim X w0 N S ⟨E.B, E.L, fun b => E.I b ∨ F' b⟩ a w' := by
  have hle : Env.Le w w' E ⟨E.B, E.L, fun b => E.I b ∨ F' b⟩ := ⟨fun b hi => hk b (.inl hi), fun _ h => .inl h, fun _ _ h => h, fun _ _ h => h⟩
  refine ⟨hchg, hfr, h.sz, fun t => (h.slot t).mono hle, fun t e cs ht => ?_, h.inj, fun t b ht => ⟨Nat.lt_of_lt_of_le (h.bl t b ht).1 hsz, fun hi => ?_⟩, fun k e n rows hr => ?_, fun k v b hv hb' => ⟨Nat.lt_of_lt_of_le (h.al k v b hv hb').1 hsz, fun hi => ?_, (h.al k v b hv hb').2.2⟩, h.ai, h.bn, h.an, fun b hi => ?_, fun b hb => .inl (h.i0 b hb), fun b hi => ?_, h.kp⟩
  · obtain ⟨b, vs, h1, h2, h3, h4⟩ := h.blk t e cs ht
    exact ⟨b, vs, h1, (hk b (.inr (.inl ⟨t, h1⟩))).trans h2, h3.mono hle, h4⟩
  · rcases hi with hi | hi
    · exact (h.bl t b ht).2 hi
    · exact (hF b hi).2.1 (.inl ⟨t, ht⟩)
  · obtain ⟨v, us, h1, h2, h3, h4, h5⟩ := h.arr k e n rows hr
    exact ⟨v, us, h1, ownA_keep h2 fun c hc => hk c (.inr (.inr ⟨k, v, h1, hc⟩)), ⟨h3.1, fun j x u hx hu => (h3.2 j x u hx hu).mono (fun b hi => hk b (.inl hi)) fun _ h => .inl h⟩, h4, h5⟩
  · rcases hi with hi | hi
    · exact (h.al k v b hv hb').2.1 hi
    · exact (hF b hi).2.1 (.inr ⟨k, v, hv, hb'⟩)
  · rcases hi with hi | hi
    · exact Nat.lt_of_lt_of_le (h.il b hi) hsz
    · exact (hF b hi).1
  · rcases hi with hi | hi
    · exact h.i1 b hi
    · exact .inr (.inl (hF b hi).2.2)
theorem Sim.retmp (h : Sim X w0 N S E a w) {tm : Array Value} {f : Nat → V} (hsz : tm.size = N) (hf : ∀ t, RepV w E (f t) (tm.getD t undef)) : Sim X w0 N ⟨f, S.blks, S.arrs⟩ E { a with tmps := tm } w :=
  ⟨h.chg, h.fr, hsz, hf, h.blk, h.inj, h.bl, h.arr, h.al, h.ai, h.bn, h.an, h.il, h.i0, h.i1, h.kp⟩
/-- a loop's record turns -/
theorem Sim.put (h : Sim X w0 N S E a w) {l : Nat} {r r' : Loop} (hl : w.heap[l]? = some (.loop r)) (hw : w0.heap.size ≤ l) (hI : ¬ E.I l) : Sim X w0 N S E a (w.putObj l (.loop r')) := by
  have hnf := h.foot_not hl rfl
  refine h.turn (ds := a.defers) (by simp) ⟨h.chg.os, h.chg.tape, h.chg.output, by simpa using h.chg.size, fun k hk hX => (World.putObj_heap_other (by omega)).trans (h.chg.block k hk hX)⟩ ?_ fun b hb => ?_
  · refine ⟨h.fr.nd, fun d hd => ?_, fun l' hl' => ?_, h.fr.nm⟩
    · obtain ⟨D, r1, r2, r3, r4⟩ := h.fr.ms d hd
      exact ⟨D, r1, r2, (World.putObj_heap_other (fun e => by subst e; rw [hl] at r3; cases r3)).trans r3, r4⟩
    · obtain ⟨r2, hr⟩ := h.fr.rd l' hl'
      by_cases e : l' = l
      · subst e
        exact ⟨r', World.putObj_heap_same (Array.getElem?_eq_some_iff.1 hl).1⟩
      · exact ⟨r2, (World.putObj_heap_other e).trans hr⟩
  · refine World.putObj_heap_other fun e => ?_
    subst e
    rcases hb with hb | ⟨o, ho, hc, _⟩
    · exact hI hb
    · rw [hl] at ho; cases ho; cases hc
end

/-! ### Iterators over data -/
/-- what a caller knows, by how many elements it was handed (none: it has said stop), the iterator's own memory, and what of that stays -/
abbrev YJ := Option Nat → (Nat → Prop) → (Nat → Prop) → World → Prop
def JLaw (J : YJ) : Prop := ∀ k O F O' F' W W', J k O F W → Chg O W W' → (∀ b, O' b → O b ∨ W.heap.size ≤ b) → (∀ b, F' b → F b ∨ O b ∨ W.heap.size ≤ b) → (∀ b, O' b ∨ F' b → b < W'.heap.size) → (∀ b, O' b → ¬ F' b) → J k O' F' W'
def YLaw (P : Program) (I : Nat → Prop) (J : YJ) (l : Nat) (el : Nat → Option (List V)) : Prop := ∀ (n : Nat) O F W vs (us : Array Value), J (some n) O F W → el n = some vs → vs.length = us.size →
  (∀ (j : Nat) v u, vs[j]? = some v → us[j]? = some u → RepV W (.pure fun b => I b ∨ F b) v u) →
  YieldAt Fence.wide 0 P l us W fun e W' => ∃ b, e = .returned (.bool b) ∧ J (if b = true then some (n + 1) else none) O F W' ∧ W.heap.size ≤ W'.heap.size ∧ ∀ c, I c ∨ F c ∨ O c → W'.heap[c]? = W.heap[c]?
def IterC (P : Program) (g : FuncId) (cs : List V) (el : Nat → Option (List V)) (M : Nat) : Prop := HasBody P g ∧
  ∀ (w : World) (us : Array Value) (I : Nat → Prop) (l : Nat) (J : YJ), (∀ b, I b → b < w.heap.size) → cs.length = us.size → (∀ (j : Nat) v u, cs[j]? = some v → us[j]? = some u → RepV w (.pure I) v u) →
    JLaw J → YLaw P I J l el → (∀ n O F W, J (some n) O F W → n ≤ M) → J (some 0) (fun _ => False) (fun _ => False) w →
    Calls P g (#[.func (.yield l) #[] #[]] ++ us) w fun e W' => (∃ v, e = .returned v) ∧ ∃ k O F, J k O F W' ∧ ∀ n, k = some n → el n = none

/-! ### The walk of an iterator's body -/
abbrev frY (E : Env) : Fr := { X := foot E, I0 := E.I, nm := true }
structure SimY (I : Nat → Prop) (J : YJ) (N : Nat) (k : Option Nat) (S : St) (E : Env) (a : Act) (w : World) : Prop where
  sim : Sim (frY E) w N S E a w
  own : J k (foot E) (fun b => E.I b ∧ ¬ I b) w
  inI : ∀ b, I b → E.I b
theorem Sim.noDef {X : Fr} {w0 : World} {N : Nat} {S : St} {E : Env} {a : Act} {w : World} (h : Sim X w0 N S E a w) (hn : X.nm = true) : ({ a with defers := [] } : Act) = a := by
  obtain ⟨tm, ds⟩ := a
  have : ds = [] := h.fr.nm hn
  rw [this]
theorem simY_of {I : Nat → Prop} {J : YJ} {N : Nat} {k : Option Nat} {S S' : St} {E E' : Env} {a a' : Act} {w w' : World} (hJ : JLaw J) (hs : SimY I J N k S E a w) (s : Sim (frY E) w N S' E' a' w') : SimY I J N k S' E' a' w' := by
  refine ⟨?_, ?_, fun b hb => s.i0 b (hs.inI b hb)⟩
  · have := s.base (X' := frY E') (w' := w') (ds := []) (Nat.le_refl _) (fun _ _ => rfl) (fun _ h => h) (fun _ h => h) (fun _ h => h) (fun _ h => nomatch h) (Frk.none rfl)
    rw [s.noDef rfl] at this
    exact this
  · refine hJ k _ _ _ _ w w' hs.own s.chg (fun b hb => (s.foot_new hb).symm) (fun b hb => ?_) (fun b hb => ?_) fun b hb hi => (s.foot_lt hb).2 hi.1
    · rcases s.i1 b hb.1 with h | h | h
      · exact .inl ⟨h, hb.2⟩
      · exact .inr (.inr h)
      · exact .inr (.inl h)
    · rcases hb with hb | hb
      · exact (s.foot_lt hb).1
      · exact s.il b hb.1
def thenY (R : Option Nat → St → Prop) (Q : Exit → Option Nat → St → Prop) : Exit → Option Nat → St → Prop
  | .normal, k, S => R k S
  | e, k, S => Q e k S
def inBlockY (id : Nat) (Q : Exit → Option Nat → St → Prop) : Exit → Option Nat → St → Prop
  | .exit i, k, S => if i = id then Q .normal k S else Q (.exit i) k S
  | e, k, S => Q e k S
def DY (P : Program) (I : Nat → Prop) (J : YJ) (N : Nat) (c : Code) (Q : Exit → Option Nat → St → Prop) (k : Option Nat) (S : St) : Prop :=
  ∀ (E : Env) (a : Act) (w : World), SimY I J N k S E a w → c.wpIn (rdF none) 0 P (fun e a' w' => ∃ k' S' E', Q e k' S' ∧ SimY I J N k' S' E' a' w') a w
def DOpY (P : Program) (I : Nat → Prop) (J : YJ) (N : Nat) (o : Oper) (K : Option Nat → St → Prop) (k : Option Nat) (S : St) : Prop :=
  ∀ (E : Env) (a : Act) (w : World), SimY I J N k S E a w → (∀ t, o.dst = some t → t < N) → ∀ (K' : Act → World → Prop) (Q : Exit → Act → World → Prop), (∀ k' S' E' a' w', K k' S' → SimY I J N k' S' E' a' w' → K' a' w') → o.wpIn (rdF none) 0 P a w K' Q
section
variable {P : Program} {I : Nat → Prop} {J : YJ} {N : Nat} {T : Nat → Option Ty} {Q : Exit → Option Nat → St → Prop} {k : Option Nat} {S : St}
theorem dy_of {c : Code} (hJ : JLaw J) (h : ∀ X w0, X.rd = none → X.B0 = [] → DW P X w0 N c (fun e S' => Q e k S') S) : DY P I J N c Q k S := fun E a w hs => by
  have h1 := h (frY E) w rfl rfl E a w hs.sim
  exact wpIn_mono h1 fun e a' w' ⟨S', E', q, s⟩ => ⟨k, S', E', q, simY_of hJ hs s⟩
theorem dy_mono {c : Code} {Q' : Exit → Option Nat → St → Prop} (h : DY P I J N c Q' k S) (hq : ∀ e k S, Q' e k S → Q e k S) : DY P I J N c Q k S := fun E a w hs =>
  wpIn_mono (h E a w hs) fun _ _ _ ⟨k', S', E', q, s⟩ => ⟨k', S', E', hq _ _ _ q, s⟩
theorem simY_weak (hJ : JLaw J) {S' : St} (hw : ∀ X : Fr, X.B0 = [] → Weak X S S') {E : Env} {a : Act} {w : World} (hs : SimY I J N k S E a w) : ∃ E', SimY I J N k S' E' a w := by
  obtain ⟨E', s⟩ := hw (frY E) rfl _ _ _ _ _ hs.sim
  exact ⟨E', simY_of hJ hs s⟩
theorem dy_weak {c : Code} (hJ : JLaw J) {S' : St} (hw : ∀ X : Fr, X.B0 = [] → Weak X S S') (h : DY P I J N c Q k S') : DY P I J N c Q k S := fun E a w hs => by
  obtain ⟨E', s⟩ := simY_weak hJ hw hs
  exact h E' a w s
theorem dy_le {c : Code} {M : Nat} (hM : ∀ n O F W, J (some n) O F W → n ≤ M) (h : (∀ n, k = some n → n ≤ M) → DY P I J N c Q k S) : DY P I J N c Q k S := fun E a w hs =>
  h (fun n e => hM n _ _ w (e ▸ hs.own)) E a w hs
theorem dy_seq {x y : Code} (h : ∀ R : Option Nat → St → Prop, (∀ k S, DY P I J N y Q k S → R k S) → DY P I J N x (thenY R Q) k S) : DY P I J N (.seq x y) Q k S := fun E a w hs =>
  wpIn_seq (wpIn_mono (h _ (fun _ _ h => h) E a w hs) fun e a' w' ⟨k', S', E', q, s⟩ => by
    cases e with
    | normal => exact q E' a' w' s
    | _ => exact ⟨k', S', E', q, s⟩)
theorem dy_skip (h : Q .normal k S) : DY P I J N .skip Q k S := fun E _ _ hs => wpIn_skip ⟨k, S, E, h, hs⟩
theorem dy_label {l : Nat} (h : Q .normal k S) : DY P I J N (.label l) Q k S := fun E _ _ hs => wpIn_label ⟨k, S, E, h, hs⟩
theorem dy_exit {id : Nat} (h : Q (.exit id) k S) : DY P I J N (.exit id) Q k S := fun E _ _ hs => wpIn_exit ⟨k, S, E, h, hs⟩
theorem dy_goto {id : Nat} (h : Q (.goto id) k S) : DY P I J N (.goto id) Q k S := fun E _ _ hs => wpIn_goto ⟨k, S, E, h, hs⟩
theorem dy_ret (h : Q .ret k S) : DY P I J N .ret Q k S := fun E _ _ hs => wpIn_ret ⟨k, S, E, h, hs⟩
theorem dy_cond {c : Operand} {x y : Code} {b : Bool} (hc : ev S c = .c (.f (.s (.bool b)))) (h1 : b = true → DY P I J N x Q k S) (h2 : b = false → DY P I J N y Q k S) : DY P I J N (.cond c x y) Q k S := fun E a w hs => by
  refine wpIn_cond (t := b) (hs.sim.ev_s hc) ?_
  cases b
  · exact h2 rfl E a w hs
  · exact h1 rfl E a w hs
theorem dy_cond_t {c : Operand} {x y : Code} (hc : ev S c = .c (.f (.s (.bool true)))) (h : DY P I J N x Q k S) : DY P I J N (.cond c x y) Q k S := dy_cond hc (fun _ => h) fun h => by cases h
theorem dy_cond_f {c : Operand} {x y : Code} (hc : ev S c = .c (.f (.s (.bool false)))) (h : DY P I J N y Q k S) : DY P I J N (.cond c x y) Q k S := dy_cond hc (fun h => by cases h) fun _ => h
theorem dy_block {id : Nat} {c : Code} (h : DY P I J N c (inBlockY id Q) k S) : DY P I J N (.block id c) Q k S := fun E a w hs =>
  wpIn_block (wpIn_mono (h E a w hs) fun e a' w' ⟨k', S', E', q, s⟩ => by
    cases e with
    | exit i =>
      simp only [Exit.inBlock, inBlockY] at q ⊢
      split
      · rename_i hi; rw [if_pos hi] at q; exact ⟨k', S', E', q, s⟩
      · rename_i hi; rw [if_neg hi] at q; exact ⟨k', S', E', q, s⟩
    | _ => exact ⟨k', S', E', q, s⟩)
theorem dy_loop {c : Code} {ι : Type} (hJ : JLaw J) (kf : ι → Option Nat) (If : ι → St) (μ : ι → Nat) (i0 : ι) (hk0 : k = kf i0) (h0 : ∀ X : Fr, X.B0 = [] → Weak X S (If i0))
    (round : ∀ i, DY P I J N c (thenY (fun k' S' => ∃ j, μ j < μ i ∧ k' = kf j ∧ ∀ X : Fr, X.B0 = [] → Weak X S' (If j)) Q) (kf i) (If i)) : DY P I J N (.loop c) Q k S := fun E a w hs => by
  subst hk0
  obtain ⟨E0, hs0⟩ := simY_weak hJ h0 hs
  have key : ∀ n i, μ i = n → ∀ (E : Env) (a : Act) (w : World), SimY I J N (kf i) (If i) E a w → (Code.loop c).wpIn (rdF none) 0 P (fun e a' w' => ∃ k' S' E', Q e k' S' ∧ SimY I J N k' S' E' a' w') a w := by
    intro n i hn E a w hs b k cs hro hb hr
    have inner : ∀ n i, μ i = n → ∀ (E : Env) (a : Act) (w : World), SimY I J N (kf i) (If i) E a w → ∃ e a' w', (∃ k' S' E', Q e k' S' ∧ SimY I J N k' S' E' a' w') ∧ ArrivesIn (Machine.fenced P (rdF none)) P (lone (b.atR a (.code c :: .inLoop c :: k)) cs w) b k cs e a' w' := by
      intro n
      induction n using Nat.strongRecOn with
      | _ n ih =>
        intro i hn E a w hs
        obtain ⟨e, a₁, w₁, ⟨k', S', E', hq, hs'⟩, harr⟩ := round i E a w hs b (.inLoop c :: k) cs hro hb hr
        cases e with
        | normal =>
          obtain ⟨j, hlt, hkj, hw⟩ := hq
          subst hkj
          obtain ⟨E'', hs''⟩ := simY_weak hJ hw hs'
          obtain ⟨e₂, a₂, w₂, hq₂, harr₂⟩ := ih (μ j) (hn ▸ hlt) j rfl E'' a₁ w₁ hs''
          exact ⟨e₂, a₂, w₂, hq₂, .of_steps (StepsIn.trans harr (.one (fenced_calm hb hr rfl) stepR_inLoop)) harr₂⟩
        | exit id => exact ⟨_, a₁, w₁, ⟨k', S', E', hq, hs'⟩, .pass (x := .inLoop c) rfl (fun _ _ => .inl (by simp)) harr⟩
        | goto l => exact ⟨_, a₁, w₁, ⟨k', S', E', hq, hs'⟩, .pass (x := .inLoop c) rfl (fun _ _ => .inl (by simp)) harr⟩
        | ret => exact ⟨_, a₁, w₁, ⟨k', S', E', hq, hs'⟩, .pass (x := .inLoop c) rfl (fun _ _ => .inl (by simp)) harr⟩
        | panic ch => exact ⟨_, a₁, w₁, ⟨k', S', E', hq, hs'⟩, .pass (x := .inLoop c) rfl (fun _ _ => .inl (by simp)) harr⟩
        | outgrown => exact ⟨_, a₁, w₁, ⟨k', S', E', hq, hs'⟩, .pass (x := .inLoop c) rfl (fun _ _ => .inl (by simp)) harr⟩
    obtain ⟨e, a', w', hq, harr⟩ := inner n i hn E a w hs
    exact ⟨e, a', w', hq, .of_steps (.one (fenced_calm hb hr rfl) stepR_loop) harr⟩
  exact key _ i0 rfl E0 a w hs0
/-! operations -/
theorem dopY_of {o : Oper} {K : Option Nat → St → Prop} (hJ : JLaw J) (hnd : notDf o.op = true) (h : ∀ X w0, X.rd = none → X.B0 = [] → DOp P X w0 N o (K k) S) : DOpY P I J N o K k S := fun E a w hs hd K' Q hK =>
  op_in (fun c hc => by rw [hc] at hnd; cases hnd) (h (frY E) w rfl rfl E a w hs.sim hd K' Q fun S' E' a' w' hk s => hK k S' E' a' w' hk (simY_of hJ hs s))
/-- yield -/
theorem dopY_yield {o : Oper} {K : Option Nat → St → Prop} {c : Call} {x : Operand} {l : Nat} {el : Nat → Option (List V)} (hY : YLaw P I J l el) (hop : o.op = .call c) (hc : c.callee = .value x) (hx : ev S x = .c (.f (.s (.func (.yield l) #[] #[])))) {n : Nat} {vs : List V} (hk : k = some n) (hel : el n = some vs)
    (ha : vles (c.args.toList.map (ev S)) vs) (h1 : K (some (n + 1)) ⟨putS S.slots o.dst (.c (.f (.s (.bool true)))), S.blks, S.arrs⟩) (h0 : K none ⟨putS S.slots o.dst (.c (.f (.s (.bool false)))), S.blks, S.arrs⟩) : DOpY P I J N o K k S := fun E a w hs hd K' Q hK => by
  subst hk
  have hcal : a.eval x = .func (.yield l) #[] #[] := hs.sim.ev_s hx
  obtain ⟨hl, hv⟩ := vles_ok (w := w) (E := E) (E' := .pure E.I) rfl ha
  obtain ⟨fn, tmps, assign, body, hy, hR⟩ := hY n _ _ w vs (c.args.map a.eval) hs.own hel (by rw [← hl]; simp) fun j v u q1 q2 => by
    refine (hv j v u q1 fun y hy => ?_).mono (E' := .pure fun b => I b ∨ (E.I b ∧ ¬ I b)) ⟨fun _ _ => rfl, fun b hb => ?_, fun _ _ h => h, fun _ _ h => h⟩
    · rw [List.getElem?_map] at hy
      rw [Array.getElem?_map] at q2
      cases hq : c.args[j]? with
      | none => simp [hq] at q2
      | some q =>
        simp [hq] at q2
        rw [show c.args.toList[j]? = some q by simpa using hq] at hy
        cases hy
        subst q2
        exact hs.sim.ev q
    · by_cases hi : I b
      · exact .inl hi
      · exact .inr ⟨hb, hi⟩
  have hexe : (execOp a.eval o).run P w = .ok (.round l fn tmps assign body) w := by
    obtain ⟨callee, args, argTypes⟩ := c
    simp only at hc
    subst hc
    simp only at hy
    simp [execOp, hop, resolve, invoke, Deferred.ofValue, hcal, hy]
  refine ⟨fun _ _ => trivial, ?_⟩
  rw [Oper.semAt_eq _ _ _ (by simp [hop]), hexe]
  refine ⟨fun h => (by cases h), hR.mono ?_⟩
  rintro e W' ⟨b, rfl, hj, hsz, hsame⟩
  show K' (a.put o.dst (.bool b)) W'
  have s1 : Sim (frY E) W' N S E { a with defers := [] } W' := hs.sim.base hsz (fun c hc => hsame c (by
    rcases hc with hc | hc
    · by_cases hi : I c
      · exact .inl hi
      · exact .inr (.inl ⟨hc, hi⟩)
    · exact .inr (.inr hc))) (fun _ h => h) (fun _ h => h) (fun _ h => h) (fun _ h => nomatch h) (Frk.none rfl)
  rw [hs.sim.noDef rfl] at s1
  have s2 := s1.env (.c (.f (.s (.bool b)))) (.bool b) (.c (.f (.s rfl))) o.dst hd
  cases b
  · exact hK _ _ _ _ _ h0 ⟨s2, hj, hs.inI⟩
  · exact hK _ _ _ _ _ h1 ⟨s2, hj, hs.inI⟩
def RunY (P : Program) (T : Nat → Option Ty) (I : Nat → Prop) (J : YJ) (N : Nat) (o : Oper) (K : Option Nat → St → Prop) (k : Option Nat) (S : St) : Prop := match stops o.op with
  | true => DOpY P I J N o K k S
  | false => eff3 P T o.dst o.op (K k) S
def exY (P : Program) (T : Nat → Option Ty) (I : Nat → Prop) (J : YJ) (N : Nat) (ops : Array Oper) : List Oper → (Option Nat → St → Prop) → Option Nat → St → Prop
  | [], K, k, S => K k S
  | o :: os, K, k, S => gd2 (gdV S (gOf ops o.guard)) (RunY P T I J N o (exY P T I J N ops os K) k) (SkipB o.dst (exY P T I J N ops os K k)) S
variable {ops : Array Oper} {K : Option Nat → St → Prop} {s : Nat → V} {b : Nat → Option (TypeId × List C)} {a : Nat → Option (TypeId × Nat × List (List F))}
theorem exY_nil : exY P T I J N ops [] K k ⟨s, b, a⟩ = K k ⟨s, b, a⟩ := rfl
theorem exY_cons {o : Oper} {os : List Oper} : exY P T I J N ops (o :: os) K k ⟨s, b, a⟩ = gd2 (gdV ⟨s, b, a⟩ (gOf ops o.guard)) (RunY P T I J N o (exY P T I J N ops os K) k) (SkipB o.dst (exY P T I J N ops os K k)) ⟨s, b, a⟩ := rfl
theorem RunY_eq {o : Oper} : RunY P T I J N o K k ⟨s, b, a⟩ = match stops o.op with
  | true => DOpY P I J N o K k ⟨s, b, a⟩
  | false => eff3 P T o.dst o.op (K k) ⟨s, b, a⟩ := rfl
theorem exY_ok (hJ : JLaw J) (hT : ∀ t y, T t = some y → TyOk P t y) (hd : ∀ (i : Nat) (o : Oper), ops[i]? = some o → ∀ t, o.dst = some t → t < N) {Q : Exit → Act → World → Prop} (hK : ∀ k' S' E' a' w', K k' S' → SimY I J N k' S' E' a' w' → Q .normal a' w') :
    ∀ (m i : Nat) {k : Option Nat} {S : St} {E : Env} {a : Act} {w : World}, exY P T I J N ops ((ops.toList.drop i).take m) K k S → SimY I J N k S E a w → wpOpsIn (rdF none) 0 P ops Q ((List.range m).map (i + ·)) a w
  | 0, i, k, S, E, a, w, h, hs => hK _ _ _ _ _ h hs
  | m + 1, i, k, S, E, a, w, h, hs => by
    have e1 : (List.range (m + 1)).map (i + ·) = i :: (List.range m).map (i + 1 + ·) := by
      rw [List.range_succ_eq_map]
      simp [List.map_map, Function.comp_def, Nat.add_assoc, Nat.add_comm, Nat.add_left_comm]
    rw [e1, wpOpsIn_cons]
    unfold wpOpIn
    cases ho : ops[i]? with
    | none =>
      have hi : ops.size ≤ i := by simpa using ho
      rw [List.drop_eq_nil_of_le (by simpa using hi), List.take_nil] at h
      exact exY_ok hJ hT hd hK m (i + 1) (by rw [List.drop_eq_nil_of_le (by simp; omega), List.take_nil]; exact h) hs
    | some o =>
      have hi : i < ops.toList.length := by simpa using (Array.getElem?_eq_some_iff.1 ho).1
      have hoi : ops.toList[i] = o := by simpa using (Array.getElem?_eq_some_iff.1 ho).2
      rw [List.drop_eq_getElem_cons hi, List.take_succ_cons, hoi] at h
      have h : gd2 (gdV S (gOf ops o.guard)) (RunY P T I J N o (exY P T I J N ops ((ops.toList.drop (i + 1)).take m) K) k) (SkipB o.dst (exY P T I J N ops ((ops.toList.drop (i + 1)).take m) K k)) S := h
      have hg : gOf ops o.guard = o.guard.map fun g => ((ops[g.1]?).bind (·.dst), g.2) := by cases o.guard <;> rfl
      have hyes : gdV S (gOf ops o.guard) = some true ∨ gdV S (gOf ops o.guard) = some false := by
        cases hq : gdV S (gOf ops o.guard) with
        | none => rw [hq] at h; exact h.elim
        | some v => cases v <;> simp
      rcases yield_ok hs.sim hd (A := gdV S (gOf ops o.guard) = some true) (B := gdV S (gOf ops o.guard) = some false) (by rw [← hg]; exact V_gd (hyes.imp (fun h => ⟨h, h⟩) fun h => ⟨h, h⟩)) with ⟨hw, h1⟩ | ⟨hw, h1⟩
      · simp only [hw, if_true]
        rw [h1] at h
        have h : RunY P T I J N o (exY P T I J N ops ((ops.toList.drop (i + 1)).take m) K) k S := h
        unfold RunY at h
        split at h
        · exact h E a w hs (hd i o ho) _ _ fun k' S' E' a' w' hk h' => exY_ok hJ hT hd hK m (i + 1) hk h'
        · refine op_in (eff3_nd h) ?_
          exact eff3_ok hT h hs.sim (hd i o ho) fun S' E' a' w' h2 h3 => exY_ok hJ hT hd hK m (i + 1) h2 (simY_of hJ hs h3)
      · simp only [hw, Bool.false_eq_true, if_false]
        rw [h1] at h
        have h : exY P T I J N ops ((ops.toList.drop (i + 1)).take m) K k ⟨putS S.slots o.dst .no, S.blks, S.arrs⟩ := h
        exact ⟨fun _ _ => trivial, exY_ok hJ hT hd hK m (i + 1) h (simY_of hJ hs (hs.sim.env .no undef .no o.dst (hd i o ho)))⟩
theorem dy_rowY {id : Nat} {R : Option Nat → St → Prop} (hJ : JLaw J) (hT : ∀ t y, T t = some y → TyOk P t y) (hN : okN N ops = true) (h : exY P T I J N ops ops.toList R k S) : DY P I J N (.region id ops false) (thenY R Q) k S := fun E a w hs => by
  refine wpIn_region ?_
  have := exY_ok (Q := fun e a' w' => ∃ k' S' E', thenY R Q e k' S' ∧ SimY I J N k' S' E' a' w') hJ hT (okN_ok hN) (fun k' S' E' _ _ hq hs => ⟨k', S', E', hq, hs⟩) ops.size 0 (by rw [List.drop_zero, List.take_of_length_le (by simp)]; exact h) hs
  have e0 : (List.range ops.size).map (0 + ·) = List.range ops.size := by simp
  rw [e0] at this
  exact this
end
def iterQ (el : Nat → Option (List V)) : Exit → Option Nat → St → Prop
  | .normal, k, _ => ∀ n, k = some n → el n = none
  | .ret, k, _ => ∀ n, k = some n → el n = none
  | _, _, _ => False
abbrev yV (l : Nat) : V := .c (.f (.s (.func (.yield l) #[] #[])))
/-- an iterator, from the walk of its body -/
theorem iter_of {P : Program} {g : FuncId} {fn : Func} {c : Code} {cs : List V} {el : Nat → Option (List V)} (hf : P.funcs[g]? = some fn) (hb : fn.body = some c) (hn : (fn.name == "runtime.NumGoroutine") = false) (hargs : cs.length + 1 ≤ fn.ntmps) (hres : fn.results = #[])
    {M : Nat} (h : ∀ I J l, JLaw J → YLaw P I J l el → (∀ n O F W, J (some n) O F W → n ≤ M) → DY P I J fn.ntmps c (iterQ el) (some 0) ⟨fun t => lkA t (yV l :: cs), fun t => lkB t [], noArr⟩) : IterC P g cs el M := by
  refine ⟨⟨fn, hf, by simp [hb], hn⟩, fun w us I l J hI hl hv hJ hY hM h0 => ?_⟩
  refine (callsIn_wide (n := 0)).1 (callsIn_of_wp_marks hf hb trivial ?_ rfl)
  have hs : SimY I J fn.ntmps (some 0) ⟨fun t => lkA t (yV l :: cs), fun t => lkB t [], noArr⟩ (.pure I) { tmps := (#[Value.func (.yield l) #[] #[]] ++ us) ++ Array.replicate (fn.ntmps - (#[Value.func (.yield l) #[] #[]] ++ us).size) undef, defers := [] } w := by
    have hfoot : ∀ b, ¬ foot (.pure I) b := fun b hb => by
      rcases hb with ⟨t, ht⟩ | ⟨k, v, hv, _⟩
      · cases ht
      · cases hv
    refine ⟨⟨Chg.refl _ _, Frk.none rfl, by simp; omega, fun t => ?_, fun t e cs h => (by cases h), fun t t' b h => (by cases h), fun t b h => (by cases h), fun a e k rows h => (by cases h), fun a v b h => (by cases h), fun a a' v v' b h => (by cases h), fun _ _ => rfl, fun _ _ => rfl, hI, fun _ h => h, fun _ h => .inl h, fun _ h => nomatch h⟩, ?_, fun _ h => h⟩
    · rcases Nat.lt_or_ge t (cs.length + 1) with ht | ht
      · simp only [lkA]
        rw [List.getD_eq_getElem?_getD, Array.getD_eq_getD_getElem?, Array.getElem?_append_left (by simp; omega)]
        cases t with
        | zero =>
          rw [Array.getElem?_append_left (by simp)]
          exact .c (.f (.s rfl))
        | succ t =>
          rw [List.getElem?_cons_succ, List.getElem?_eq_getElem (by omega), Array.getElem?_append_right (by simp)]
          simp only [List.size_toArray, List.length_cons, List.length_nil, Nat.zero_add, Nat.add_sub_cancel]
          rw [Array.getElem?_eq_getElem (by omega)]
          exact hv t _ _ (List.getElem?_eq_getElem (by omega)) (Array.getElem?_eq_getElem (by omega))
      · simp only [lkA]
        rw [List.getD_eq_getElem?_getD, List.getElem?_eq_none (by simp; omega)]
        exact .un
    · exact hJ _ _ _ _ _ w w h0 (Chg.refl _ _) (fun b hb => absurd hb (hfoot b)) (fun b hb => absurd hb.1 hb.2) (fun b hb => hb.elim (fun h => absurd h (hfoot b)) fun h => absurd h.1 h.2) fun b hb => absurd hb (hfoot b)
  refine wpIn_mono (h I J l hJ hY hM _ _ w hs) ?_
  rintro e ⟨tm, ds⟩ w' ⟨k', S', E', hq, s⟩
  have hds : ds = [] := s.sim.fr.nm rfl
  subst hds
  have key : (∀ n, k' = some n → el n = none) → LeavesInM Fence.wide 0 P fn tm (fun e W' => (∃ v, e = .returned v) ∧ ∃ k O F, J k O F W' ∧ ∀ n, k = some n → el n = none) [] .returning w' := fun hk =>
    ⟨_, results_none hres _ _ _, ⟨_, rfl⟩, k', _, _, s.own, hk⟩
  cases e with
  | normal => exact key hq
  | ret => exact key hq
  | _ => exact hq.elim
end Go.Dl
/-! ### The loop over an iterator -/
namespace Go.Dl
open Go.Ed Go.RowKit
/-- a value that no round can spoil: data, and blocks of the list -/
def stay (bn : List Nat) : V → Bool
  | .un => true
  | .no => true
  | .c (.f _) => true
  | .c _ => false
  | .agg xs => xs.all fun x => match x with
    | .f _ => true
    | _ => false
  | .tup _ => false
  | .loc t _ => bn.contains t
  | .rd _ => true
  | .el .. => false
  | .clo _ fi ca => (fi ++ ca).all fun x => match x with
    | .loc t _ => bn.contains t
    | _ => true
section
variable {w w' : World} {E E' : Env} {bn : List Nat}
theorem stayW_ok {x : W} {u : Value} (h : (match x with | .loc t _ => bn.contains t | _ => true) = true) (hx : RepW w E x u) (hm : ∀ b, E.I b → w'.heap[b]? = w.heap[b]?) (hI : ∀ b, E.I b → E'.I b) (hB : ∀ t b, t ∈ bn → E.B t = some b → E'.B t = some b) : RepW w' E' x u := by
  cases hx with
  | f h1 => exact .f (h1.mono hm hI)
  | agg h1 => exact .agg ⟨h1.1, fun j x u hx hu => (h1.2 j x u hx hu).mono hm hI⟩
  | loc h1 => exact .loc (hB _ _ (by simpa using h) h1)
  | rd us h1 h2 h3 =>
    refine .rd us (hI _ h1) (fun j x hj => ?_) fun j x hj => (h3 j x hj).mono hm hI
    rw [World.cell?_of_block (hm _ (by rw [block_of_add]; exact h1))]
    exact h2 j x hj
theorem stay_ok {x : V} {u : Value} (h : stay bn x = true) (hx : RepV w E x u) (hm : ∀ b, E.I b → w'.heap[b]? = w.heap[b]?) (hI : ∀ b, E.I b → E'.I b) (hB : ∀ t b, t ∈ bn → E.B t = some b → E'.B t = some b) : RepV w' E' x u := by
  cases hx with
  | un => exact .un
  | no => exact .no
  | c h1 => cases h1 with
    | f h1 => exact .c (.f (h1.mono hm hI))
    | o => cases h
    | un => cases h
    | p => cases h
  | agg h1 =>
    refine .agg ⟨h1.1, fun j x u hx hu => ?_⟩
    have h2 := List.all_eq_true.1 h x (List.mem_of_getElem? hx)
    cases h1.2 j x u hx hu with
    | f h3 => exact .f (h3.mono hm hI)
    | o => cases h2
    | p => cases h2
    | un => cases h2
  | tup => cases h
  | loc h1 => exact .loc (hB _ _ (by simpa [stay] using h) h1)
  | rd us h1 h2 h3 =>
    refine .rd us (hI _ h1) (fun j x hj => ?_) fun j x hj => (h3 j x hj).mono hm hI
    rw [World.cell?_of_block (hm _ (by rw [block_of_add]; exact h1))]
    exact h2 j x hj
  | el => cases h
  | clo h1 h2 =>
    have h := List.all_eq_true.1 h
    refine .clo ⟨h1.1, fun j x u hx hu => ?_⟩ ⟨h2.1, fun j x u hx hu => ?_⟩
    · exact stayW_ok (h x (List.mem_append.2 (.inl (List.mem_of_getElem? hx)))) (h1.2 j x u hx hu) hm hI hB
    · exact stayW_ok (h x (List.mem_append.2 (.inr (List.mem_of_getElem? hx)))) (h2.2 j x u hx hu) hm hI hB
/-- what a round has done to memory, for the state around it -/
theorem Sim.back {X X1 : Fr} {w0 : World} {N : Nat} {s : Nat → V} {b : Nat → Option (TypeId × List C)} {c : Nat → Option (TypeId × Nat × List (List F))} {S1 : St} {E1 : Env} {a a1 : Act} (hp : Sim X w0 N ⟨s, b, c⟩ E a w) (hr : Sim X1 w N S1 E1 a1 w')
    (hX : X1.X = foot E) (hI : X1.I0 = E.I) (hB1 : X1.B0 = bn) (hG : ∀ t, t ∈ bn → E.B t = some (X1.G t)) (hB0 : ∀ t, t ∈ X.B0 → t ∈ bn) (hst : ∀ t, stay bn (s t) = true) : Sim X w0 N ⟨s, S1.blks, S1.arrs⟩ E1 a w' := by
  have hkp : ∀ t b, t ∈ bn → E.B t = some b → E1.B t = some b := fun t b ht hb => by
    rw [hr.kp t (by rw [hB1]; exact ht), ← hG t ht]; exact hb
  have hsame : ∀ b, b < w.heap.size → ¬ foot E b → w'.heap[b]? = w.heap[b]? := fun b hb hf => hr.chg.block b hb (by rw [hX]; exact hf)
  have hmI : ∀ b, E.I b → w'.heap[b]? = w.heap[b]? := fun b hb => hsame b (hp.il b hb) fun hf => (hp.foot_lt hf).2 hb
  have hII : ∀ b, E.I b → E1.I b := fun b hb => hr.i0 b (by rw [hI]; exact hb)
  have hnew : ∀ b, w.heap.size ≤ b ∨ X1.X b → w0.heap.size ≤ b ∨ X.X b := fun b hb => by
    rcases hb with hb | hb
    · exact .inl (Nat.le_trans hp.chg.size hb)
    · rw [hX] at hb; exact hp.foot_new hb
  have hE1 : ∀ b, E1.I b → E.I b ∨ w.heap.size ≤ b ∨ foot E b := fun b hb => by
    have := hr.i1 b hb
    rw [hX, hI] at this
    exact this
  refine ⟨hp.chg.trans' hr.chg fun i hi hf => ?_, (hp.fr.mem fun b hb => ?_).keep fun k o ho hc => hsame k (Array.getElem?_eq_some_iff.1 ho).1 (hp.foot_not ho hc), hp.sz, fun t => stay_ok (hst t) (hp.slot t) hmI hII hkp, fun t e cs ht => ?_, hr.inj, hr.bl, fun k e n rows hk => ?_, hr.al, hr.ai, hr.bn, hr.an, hr.il, fun b hb => hII b (hp.i0 b hb), fun b hb => ?_, fun t ht => hkp t _ (hB0 t ht) (hp.kp t ht)⟩
  · rcases hnew i (.inr hf) with h | h
    · omega
    · exact h
  · rcases hE1 b hb with h | h | h
    · exact .inl h
    · exact .inr (.inl h)
    · exact .inr (.inr (hp.foot_cell h))
  · obtain ⟨b, vs, h1, h2, h3, h4⟩ := hr.blk t e cs ht
    exact ⟨b, vs, h1, h2, h3, hnew b h4⟩
  · obtain ⟨v, us, h1, h2, h3, h4, h5⟩ := hr.arr k e n rows hk
    exact ⟨v, us, h1, h2, h3, h4, fun b hb => hnew b (h5 b hb)⟩
  · rcases hE1 b hb with h | h | h
    · exact hp.i1 b h
    · exact .inr (hnew b (.inl h))
    · exact .inr (hp.foot_new h)
end
/-- yield's arguments, put into the loop's parameters -/
def zipS : List Nat → List V → (Nat → V) → Nat → V
  | p :: ps, v :: vs, f => zipS ps vs (upd f p v)
  | _, _, f => f
theorem zipS_ok {w : World} {E : Env} : ∀ (ps : List Nat) (vs : List V) (us : List Value) (f : Nat → V) (tm : Array Value), vs.length = us.length → (∀ p, p ∈ ps → p < tm.size) → (∀ t, RepV w E (f t) (tm.getD t undef)) →
    (∀ (j : Nat) v u, vs[j]? = some v → us[j]? = some u → RepV w E v u) →
    (((ps.zip us).foldl (fun t (p, v) => t.setIfInBounds p v) tm).size = tm.size) ∧ ∀ t, RepV w E (zipS ps vs f t) (((ps.zip us).foldl (fun t (p, v) => t.setIfInBounds p v) tm).getD t undef)
  | [], vs, us, f, tm, hl, hp, hf, hv => ⟨rfl, fun t => by simpa [zipS] using hf t⟩
  | p :: ps, [], us, f, tm, hl, hp, hf, hv => by
    obtain rfl : us = [] := List.eq_nil_of_length_eq_zero (by simpa using hl.symm)
    exact ⟨rfl, fun t => by simpa [zipS] using hf t⟩
  | p :: ps, v :: vs, [], f, tm, hl, hp, hf, hv => by simp at hl
  | p :: ps, v :: vs, u :: us, f, tm, hl, hp, hf, hv => by
    have hpl := hp p (by simp)
    have ih := zipS_ok (w := w) (E := E) ps vs us (upd f p v) (tm.setIfInBounds p u) (by simpa using hl) (fun q hq => by simpa using hp q (by simp [hq])) (fun t => ?_) fun j v u hj hu => hv (j + 1) v u (by simpa using hj) (by simpa using hu)
    · simp only [List.zip_cons_cons, List.foldl_cons, zipS]
      exact ⟨ih.1.trans (by simp), ih.2⟩
    · by_cases ht : t = p
      · subst ht
        rw [upd_same, Array.getD_eq_getD_getElem?, Array.getElem?_setIfInBounds_self_of_lt hpl]
        exact hv 0 v u rfl rfl
      · rw [upd_ne _ _ ht, Array.getD_eq_getD_getElem?, Array.getElem?_setIfInBounds_ne (by omega), ← Array.getD_eq_getD_getElem?]
        exact hf t
theorem Frk.move {X : Fr} {w0 w1 w w' : World} {I I1 I' : Nat → Prop} {ds : List Deferred} (h1 : Frk X w0 I1 ds w1) (h : Frk X w0 I ds w) (hk : ∀ k, k < w1.heap.size → w'.heap[k]? = w.heap[k]?) (hI : ∀ b, I' b → I b ∨ w1.heap.size ≤ b) : Frk X w0 I' ds w' := by
  refine ⟨h.nd, fun d hd => ?_, fun l hl => ?_, h.nm⟩
  · obtain ⟨D, r1, r2, r3, r4⟩ := h.ms d hd
    obtain ⟨D', q1, q2, q3, q4⟩ := h1.ms d hd
    rw [r1] at q1
    cases q1
    have hlt := (Array.getElem?_eq_some_iff.1 q3).1
    refine ⟨D, r1, r2, (hk D hlt).trans r3, fun hi => ?_⟩
    rcases hI D hi with h | h
    · exact r4 h
    · omega
  · obtain ⟨r, hr⟩ := h.rd l hl
    obtain ⟨r', hr'⟩ := h1.rd l hl
    exact ⟨r, (hk l (Array.getElem?_eq_some_iff.1 hr').1).trans hr⟩
def onlyN (R : St → Prop) : Exit → St → Prop
  | .normal, S => R S
  | _, _ => False
def pureW : List W → Bool
  | [] => true
  | .loc _ _ :: _ => false
  | _ :: l => pureW l
theorem pureW_ok {w w' : World} {E E' : Env} (hm : ∀ b, E.I b → w'.heap[b]? = w.heap[b]?) (hI : ∀ b, E.I b → E'.I b) : ∀ {ca : List W} {us : List Value}, pureW ca = true → RepWs w E ca us → (ca.map fun x => match x with | .f x => V.c (.f x) | .agg xs => .agg (xs.map .f) | .loc t o => .loc t o | .rd xs => .rd xs).length = us.length ∧ ∀ (j : Nat) v u, (ca.map fun x => match x with | .f x => V.c (.f x) | .agg xs => .agg (xs.map .f) | .loc t o => .loc t o | .rd xs => .rd xs)[j]? = some v → us[j]? = some u → RepV w' E' v u := by
  intro ca us hp hr
  refine ⟨by simp [hr.1], fun j v u hv hu => ?_⟩
  rw [List.getElem?_map] at hv
  cases hq : ca[j]? with
  | none => simp [hq] at hv
  | some x =>
    rw [hq] at hv
    cases hv
    have hx := hr.2 j x u hq hu
    have hnl : ∀ (ca : List W), pureW ca = true → ∀ x ∈ ca, ∀ t o, x ≠ .loc t o := fun ca => by
      induction ca with
      | nil => intro _ x hx; cases hx
      | cons y ys ih =>
        intro h x hx t o e
        rcases List.mem_cons.1 hx with h1 | h1
        · subst h1; subst e; cases h
        · cases y <;> first | exact ih h x h1 t o e | cases h
    have hx2 := hnl ca hp x (List.mem_of_getElem? hq)
    cases hx with
    | f h => exact .c (.f (h.mono hm hI))
    | agg h =>
      refine .agg ⟨by simp [h.1], fun j x u hx hu => ?_⟩
      rw [List.getElem?_map] at hx
      rename_i xs vs' _
      cases hq2 : xs[j]? with
      | none => simp [hq2] at hx
      | some y =>
        rw [hq2] at hx
        cases hx
        exact .f ((h.2 j y u hq2 hu).mono hm hI)
    | loc h => exact absurd rfl (hx2 _ _)
    | rd vs h1 h2 h3 =>
      refine .rd vs (hI _ h1) (fun j x hj => ?_) fun j x hj => (h3 j x hj).mono hm hI
      rw [World.cell?_of_block (hm _ (by rw [block_of_add]; exact h1))]
      exact h2 j x hj
abbrev W.asV : W → V := fun x => match x with
  | .f x => V.c (.f x)
  | .agg xs => .agg (xs.map .f)
  | .loc t o => .loc t o
  | .rd xs => .rd xs
def jumpQ (Q : Exit → St → Prop) : Code → St → Prop
  | .ret, S => Q .ret S
  | .exit id, S => Q (.exit id) S
  | _, _ => False
/-- how a round is left -/
def roundQ (sl : Nat → V) (Q : Exit → St → Prop) (X : Fr) (G : St → Prop) : Exit → St → Prop
  | .normal, S => ∃ S', Weak X S S' ∧ G S'
  | .ret, S => ∃ S', Weak X S S' ∧ Q .ret ⟨sl, S'.blks, S'.arrs⟩
  | .exit id, S => ∃ S', Weak X S S' ∧ Q (.exit id) ⟨sl, S'.blks, S'.arrs⟩
  | _, _ => False
abbrev recL (fn : FuncId) (tmps : Array Value) (ps : Array Tmp) (assign body : Code) (dd : Nat) (st : LoopState) (pe : Option Code) : Loop := { state := st, pending := pe, fn := fn, tmps := tmps, params := ps, assign := assign, body := body, defers := dd }
/-- between the rounds: what the loop knows -/
def roundJ (X : Fr) (w0 : World) (N : Nat) (sl : Nat → V) (bn : List Nat) (G : Nat → Nat) (I : Nat → Prop) (a : Act) (W1 : World) (l : Nat) (rec : LoopState → Option Code → Loop) (R : Nat → St → Prop) (Q : Exit → St → Prop) : YJ := fun k O F W =>
  (∀ b, O b ∨ F b → W1.heap.size ≤ b ∧ b < W.heap.size) ∧ (∀ b, O b → ¬ F b) ∧ W1.heap.size ≤ W.heap.size ∧ ∃ S' E', Sim X w0 N ⟨sl, S'.blks, S'.arrs⟩ E' a W ∧ (∀ t, t ∈ bn → E'.B t = some (G t)) ∧ (∀ b, I b → E'.I b) ∧ (∀ b, O b → ¬ foot E' b ∧ ¬ E'.I b) ∧ (∀ b, F b → E'.I b) ∧ ¬ E'.I l ∧
    match k with
    | some n => R n S' ∧ W.heap[l]? = some (.loop (rec .ready none))
    | none => ∃ c, jumpQ Q c ⟨sl, S'.blks, S'.arrs⟩ ∧ W.heap[l]? = some (.loop (rec .done (some c)))
section
variable {P : Program} {X : Fr} {w0 : World} {N : Nat} {Q : Exit → St → Prop} {S : St}
theorem roundJ_law {sl : Nat → V} {bn : List Nat} {G : Nat → Nat} {I : Nat → Prop} {a : Act} {W1 : World} {l : Nat} {rec : LoopState → Option Code → Loop} {R : Nat → St → Prop} (hw : w0.heap.size ≤ W1.heap.size) (hfr : Frk X w0 I a.defers W1) (hl : l < W1.heap.size) : JLaw (roundJ X w0 N sl bn G I a W1 l rec R Q) := by
  rintro k O F O' F' W W' ⟨rng, dis, sz, S', E', sim, kb, ki, ko, kf, kl, kk⟩ hchg hO hF hlt hdis
  have hsame : ∀ b, b < W.heap.size → ¬ O b → W'.heap[b]? = W.heap[b]? := fun b hb hn => hchg.block b hb hn
  have hlow : ∀ b, b < W1.heap.size → W'.heap[b]? = W.heap[b]? := fun b hb => hsame b (by omega) fun h => by have := (rng b (.inl h)).1; omega
  have hO1 : ∀ b, O' b → W1.heap.size ≤ b := fun b hb => (hO b hb).elim (fun h => (rng b (.inl h)).1) fun h => Nat.le_trans sz h
  have hF1 : ∀ b, F' b → W1.heap.size ≤ b := fun b hb => by
    rcases hF b hb with h | h | h
    · exact (rng b (.inr h)).1
    · exact (rng b (.inl h)).1
    · exact Nat.le_trans sz h
  have hO2 : ∀ b, O' b → ¬ foot E' b ∧ ¬ E'.I b := fun b hb => by
    rcases hO b hb with h | h
    · exact ko b h
    · exact ⟨fun hf => by have := (sim.foot_lt hf).1; omega, fun hi => by have := sim.il b hi; omega⟩
  refine ⟨fun b hb => ⟨hb.elim (hO1 b) (hF1 b), hlt b hb⟩, hdis, Nat.le_trans sz hchg.size, S', ⟨E'.B, E'.L, fun b => E'.I b ∨ F' b⟩, ?_, kb, fun b hb => .inl (ki b hb), fun b hb => ⟨(hO2 b hb).1, fun h => h.elim (hO2 b hb).2 (hdis b hb)⟩, fun b hb => .inr hb, fun h => h.elim kl fun h => by have := hF1 l h; omega, ?_⟩
  · refine sim.widen hchg.size (fun b hb => ?_) (sim.chg.trans' hchg fun i hi ho => ?_) (hfr.move sim.fr hlow fun b hb => hb.imp id (hF1 b)) fun b hb => ⟨hlt b (.inr hb), fun hf => ?_, Nat.le_trans hw (hF1 b hb)⟩
    · rcases hb with hb | hb
      · exact hsame b (sim.il b hb) fun h => (ko b h).2 hb
      · exact hsame b (sim.foot_lt hb).1 fun h => (ko b h).1 hb
    · have := (rng i (.inl ho)).1; omega
    · rcases hF b hb with h | h | h
      · exact (sim.foot_lt hf).2 (kf b h)
      · exact (ko b h).1 hf
      · have := (sim.foot_lt hf).1; omega
  · cases k with
    | some n => exact ⟨kk.1, (hlow l hl).trans kk.2⟩
    | none => exact let ⟨c, h1, h2⟩ := kk; ⟨c, h1, (hlow l hl).trans h2⟩
theorem roundJ_yield {ps : Array Tmp} {assign body : Code} {el : Nat → Option (List V)} {ι : Type} {sl : Nat → V} {mem : Nat → ι → St} {Rel : Nat → ι → Prop} {bn : List Nat} {fn : FuncId} {a : Act} {dd : Nat} {mark : List Deferred} {I : Nat → Prop} {G : Nat → Nat} {W1 : World} {l : Nat}
    (hB0 : ∀ t, t ∈ X.B0 → t ∈ bn) (hst : ∀ t, stay bn (sl t) = true) (hps : ∀ k vs, el k = some vs → vs.length = ps.size) (hpN : ∀ p, p ∈ ps.toList → p < N) (hGX : ∀ t, t ∈ X.B0 → G t = X.G t) (hw : w0.heap.size ≤ l) (hll : l < W1.heap.size)
    (round : ∀ k x vs, Rel k x → el k = some vs → ∀ XX I0 w1, DW P ⟨XX, I0, bn, G, some l, true⟩ w1 N assign (onlyN fun S1 => ∀ XX I0 w2, DW P ⟨XX, I0, bn, G, some l, true⟩ w2 N body (roundQ sl Q ⟨XX, I0, bn, G, some l, true⟩ fun S' => ∃ x', Rel (k + 1) x' ∧ S' = mem (k + 1) x') S1) ⟨zipS ps.toList vs sl, (mem k x).blks, (mem k x).arrs⟩) :
    YLaw P I (roundJ X w0 N sl bn G I { a with defers := mark ++ a.defers } W1 l (recL fn a.tmps ps assign body dd) (fun n S' => ∃ x, Rel n x ∧ S' = mem n x) Q) l el := by
  rintro n O F W vs us ⟨rng, dis, sz, S', E', sim, kb, ki, ko, kf, kl, ⟨x, hrel, rfl⟩, hl⟩ hel hlen hrep
  have hlt : l < W.heap.size := (Array.getElem?_eq_some_iff.1 hl).1
  have hy := run_yield (P := P) (args := us) hl (by rw [← hlen]; exact hps n vs hel)
  refine ⟨fn, _, assign, body, hy, roundIn_of_wpIn trivial ?_⟩
  have b1 : Sim ⟨foot E', E'.I, bn, G, some l, true⟩ W N ⟨sl, (mem n x).blks, (mem n x).arrs⟩ E' { tmps := a.tmps, defers := [] } W :=
    sim.base (ds := []) (Nat.le_refl _) (fun _ _ => rfl) (fun _ h => h) (fun _ h => h) (fun _ h => h) kb ⟨List.nodup_nil, fun _ h => (by cases h), fun l' h' => ⟨_, by cases h'; exact hl⟩, fun _ => rfl⟩
  have z := zipS_ok (w := W) (E := E') ps.toList vs us.toList sl a.tmps (by simpa using hlen) (fun p hp => by have := sim.sz; simp only at this; rw [this]; exact hpN p hp) (fun t => sim.slot t) fun j v u h1 h2 =>
    (hrep j v u h1 (by simpa using h2)).mono ⟨fun _ _ => rfl, fun b hb => hb.elim (ki b) (kf b), fun _ _ h => (by cases h), fun _ _ h => (by cases h)⟩
  have b2 := b1.retmp (z.1.trans sim.sz) z.2
  have e0 : (ps.zip us).foldl (fun tmps (t, a) => tmps.setIfInBounds t a) a.tmps = (ps.toList.zip us.toList).foldl (fun t (p, v) => t.setIfInBounds p v) a.tmps := by
    rw [← Array.foldl_toList, Array.toList_zip]
  simp only [recL] at hy ⊢
  rw [e0]
  refine wpIn_mono (round n x vs hrel hel (foot E') E'.I W E' _ W b2) ?_
  rintro e a1 Wa ⟨S1, E1, q1, s1⟩
  cases e with
  | normal => ?_
  | _ => exact q1.elim
  have hnf := sim.foot_not hl rfl
  have hl1 : Wa.heap[l]? = some (.loop (recL fn a.tmps ps assign body dd .ready none)) := (s1.chg.block l hlt hnf).trans hl
  have hlt1 : l < Wa.heap.size := (Array.getElem?_eq_some_iff.1 hl1).1
  refine ⟨_, run_beginRound hl1 rfl, ?_⟩
  have kl1 : ¬ E1.I l := fun h => by
    rcases s1.i1 l h with h | h | h
    · exact kl h
    · omega
    · exact hnf h
  have p1 := sim.back s1 rfl rfl rfl kb hB0 hst
  have p2 := p1.put (r' := recL fn a.tmps ps assign body dd .busy none) hl1 hw kl1
  have hl2 : (Wa.putObj l (.loop (recL fn a.tmps ps assign body dd .busy none))).heap[l]? = some (.loop (recL fn a.tmps ps assign body dd .busy none)) := World.putObj_heap_same hlt1
  have b3 : Sim ⟨foot E1, E1.I, bn, G, some l, true⟩ (Wa.putObj l (.loop (recL fn a.tmps ps assign body dd .busy none))) N S1 E1 { a1 with defers := [] } (Wa.putObj l (.loop (recL fn a.tmps ps assign body dd .busy none))) :=
    s1.base (ds := []) (by simp) (fun b hb => World.putObj_heap_other fun e => by subst e; exact hb.elim kl1 (p1.foot_not hl1 rfl)) (fun _ h => h) (fun _ h => h) (fun _ h => h) (fun t ht => s1.kp t ht) ⟨List.nodup_nil, fun _ h => (by cases h), fun l' h' => ⟨_, by cases h'; exact hl2⟩, fun _ => rfl⟩
  rw [s1.noDef rfl] at b3
  refine wpIn_mono (q1 (foot E1) E1.I _ E1 a1 _ b3) ?_
  rintro e a2 W3 ⟨S2, E2, q2, s2⟩
  have hl3 : W3.heap[l]? = some (.loop (recL fn a.tmps ps assign body dd .busy none)) := (s2.chg.block l (by simpa using hlt1) (p2.foot_not hl2 rfl)).trans hl2
  have fin : ∀ (S3 : St) (E3 : Env) (jump : Option Code), Sim ⟨foot E1, E1.I, bn, G, some l, true⟩ (Wa.putObj l (.loop (recL fn a.tmps ps assign body dd .busy none))) N S3 E3 a2 W3 →
      (match (if jump.isNone = true then some (n + 1) else none) with
        | some n => ∃ x, Rel n x ∧ S3 = mem n x
        | none => ∃ c, jump = some c ∧ jumpQ Q c ⟨sl, S3.blks, S3.arrs⟩) →
      ∃ v w', (Instr.endRound l jump).run P W3 = .ok v w' ∧ ∃ b, Ending.returned v = .returned (.bool b) ∧ roundJ X w0 N sl bn G I { a with defers := mark ++ a.defers } W1 l (recL fn a.tmps ps assign body dd) (fun n S' => ∃ x, Rel n x ∧ S' = mem n x) Q (if b = true then some (n + 1) else none) O F w' ∧ W.heap.size ≤ w'.heap.size ∧ ∀ c, I c ∨ F c ∨ O c → w'.heap[c]? = W.heap[c]? := fun S3 E3 jump s3 hj => by
    refine ⟨_, _, run_endRound jump hl3, jump.isNone, rfl, ?_⟩
    have hlt3 : l < W3.heap.size := (Array.getElem?_eq_some_iff.1 hl3).1
    have hz1 := s1.chg.size
    have hz3 := s3.chg.size
    simp only [World.putObj_size] at hz3
    have kl3 : ¬ E3.I l := fun h => by
      rcases s3.i1 l h with h | h | h
      · exact kl1 h
      · simp at h; omega
      · exact p2.foot_not hl2 rfl h
    have p3 := p2.back s3 rfl rfl rfl (fun t ht => s1.kp t ht) hB0 hst
    have p4 := p3.put (r' := recL fn a.tmps ps assign body dd (if jump.isNone = true then .ready else .done) jump) hl3 hw kl3
    have hO : ∀ b, O b → ¬ foot E3 b ∧ ¬ E3.I b := fun b hb => by
      have h1 := (rng b (.inl hb)).2
      refine ⟨fun hf => ?_, fun hi => ?_⟩
      · rcases s3.foot_new hf with h | h
        · simp at h; omega
        · rcases s1.foot_new h with h | h
          · omega
          · exact (ko b hb).1 h
      · rcases s3.i1 b hi with h | h | h
        · rcases s1.i1 b h with h | h | h
          · exact (ko b hb).2 h
          · omega
          · exact (ko b hb).1 h
        · simp at h; omega
        · rcases s1.foot_new h with h | h
          · omega
          · exact (ko b hb).1 h
    have hmono : ∀ b, E'.I b → E3.I b := fun b hb => s3.i0 b (s1.i0 b hb)
    refine ⟨⟨fun b hb => ⟨(rng b hb).1, by have := (rng b hb).2; simp; omega⟩, dis, by simp; omega, S3, E3, p4, fun t ht => s3.kp t ht, fun b hb => hmono b (ki b hb), hO, fun b hb => hmono b (kf b hb), kl3, ?_⟩, by simp; omega, fun c hc => ?_⟩
    · cases hq : jump with
      | none =>
        rw [hq] at hj
        exact ⟨hj, World.putObj_heap_same hlt3⟩
      | some c =>
        rw [hq] at hj
        obtain ⟨c', e, hj⟩ := hj
        cases e
        exact ⟨c, hj, World.putObj_heap_same hlt3⟩
    · have hcl : c ≠ l ∧ c < W.heap.size ∧ ¬ foot E' c ∧ ¬ foot E1 c := by
        rcases hc with hc | hc | hc
        · have := ki c hc
          exact ⟨fun e => kl (e ▸ this), sim.il c this, fun hf => (sim.foot_lt hf).2 this, fun hf => (s1.foot_lt hf).2 (s1.i0 c this)⟩
        · have := kf c hc
          exact ⟨fun e => kl (e ▸ this), sim.il c this, fun hf => (sim.foot_lt hf).2 this, fun hf => (s1.foot_lt hf).2 (s1.i0 c this)⟩
        · have h1 := rng c (.inl hc)
          refine ⟨by omega, h1.2, (ko c hc).1, fun hf => ?_⟩
          rcases s1.foot_new hf with h | h
          · omega
          · exact (ko c hc).1 h
      obtain ⟨h1, h2, h3, h4⟩ := hcl
      refine (World.putObj_heap_other h1).trans ((s3.chg.block c (by simp; omega) h4).trans ((World.putObj_heap_other h1).trans (s1.chg.block c h2 h3)))
  cases e with
  | normal =>
    obtain ⟨S3, hw3, x', hr', rfl⟩ := q2
    obtain ⟨E3, s3⟩ := hw3 _ _ _ _ _ s2
    exact fin _ E3 none s3 ⟨x', hr', rfl⟩
  | ret =>
    obtain ⟨S3, hw3, hq⟩ := q2
    obtain ⟨E3, s3⟩ := hw3 _ _ _ _ _ s2
    exact fin S3 E3 (some .ret) s3 ⟨_, rfl, hq⟩
  | exit id =>
    obtain ⟨S3, hw3, hq⟩ := q2
    obtain ⟨E3, s3⟩ := hw3 _ _ _ _ _ s2
    exact fin S3 E3 (some (.exit id)) s3 ⟨_, rfl, hq⟩
  | _ => exact q2.elim
/-- THE LOOP OVER AN ITERATOR -/
theorem dw_rangeF {g : Operand} {ps : Array Tmp} {assign body : Code} {f : FuncId} {ca : List W} {el : Nat → Option (List V)} {ι : Type} (sl : Nat → V) (mem : Nat → ι → St) (Rel : Nat → ι → Prop) (x0 : ι) (M : Nat) (bn : List Nat) (hX : X.nm = false ∨ X.rd.isSome = true)
    (h0 : Weak X S ⟨sl, (mem 0 x0).blks, (mem 0 x0).arrs⟩) (hr0 : Rel 0 x0) (hM : ∀ k x, Rel k x → k ≤ M) (hbn : ∀ t, t ∈ bn → ((mem 0 x0).blks t).isSome = true) (hB0 : ∀ t, t ∈ X.B0 → t ∈ bn) (hst : ∀ t, stay bn (sl t) = true)
    (hg : ev ⟨sl, (mem 0 x0).blks, (mem 0 x0).arrs⟩ g = .clo f [] ca) (hca : pureW ca = true) (hit : IterC P f (ca.map W.asV) el M) (hps : ∀ k vs, el k = some vs → vs.length = ps.size) (hpN : ∀ p, p ∈ ps.toList → p < N)
    (round : ∀ k x vs, Rel k x → el k = some vs → ∀ XX I0 G l w1, (∀ t, t ∈ X.B0 → G t = X.G t) → DW P ⟨XX, I0, bn, G, some l, true⟩ w1 N assign (onlyN fun S1 => ∀ XX I0 w2, DW P ⟨XX, I0, bn, G, some l, true⟩ w2 N body (roundQ sl Q ⟨XX, I0, bn, G, some l, true⟩ fun S' => ∃ x', Rel (k + 1) x' ∧ S' = mem (k + 1) x') S1) ⟨zipS ps.toList vs sl, (mem k x).blks, (mem k x).arrs⟩)
    (done : ∀ k x, Rel k x → el k = none → Q .normal ⟨sl, (mem k x).blks, (mem k x).arrs⟩) : DW P X w0 N (.rangeFunc g ps assign body) Q S := by
  intro E0 a w hs
  obtain ⟨E, hs1⟩ := h0 _ _ _ _ _ hs
  obtain ⟨lb, hgv, hlb⟩ : ∃ lb : Array Value, a.eval g = .func (.func f) #[] lb ∧ RepWs w E ca lb.toList := by
    have h1 := hs1.ev g
    rw [hg] at h1
    generalize a.eval g = gv at h1
    cases h1 with
    | clo h1 h2 =>
      rename_i us vs
      have : us = #[] := by
        have := h1.1
        simp only [List.length_nil, Array.length_toList] at this
        exact Array.eq_empty_of_size_eq_zero this.symm
      subst this
      exact ⟨vs, rfl, h2⟩
  refine wpIn_rangeFunc ?_
  intro fn hfn
  obtain ⟨l, mark, W1, dd, hent, hl1, hbel, hlw, hfr1⟩ : ∃ l mark W1 dd, (Instr.enterLoop fn a.tmps ps assign body X.rd).run P w = .ok (l, mark) W1 ∧ W1.heap[l]? = some (.loop (recL fn a.tmps ps assign body dd .ready none)) ∧ Below w.heap.size w W1 ∧ w.heap.size ≤ l ∧ Frk X w0 E.I (mark ++ a.defers) W1 := by
    cases hrd : X.rd with
    | none =>
      have hbel : Below w.heap.size w ((w.alloc (.deferred (some []))).alloc (.loop (recL fn a.tmps ps assign body w.heap.size .ready none))) := ((Below.refl _ w).alloc (Nat.le_refl _) _).alloc (by simp) _
      refine ⟨_, _, _, w.heap.size, run_enterLoop_outer _ _ _ _ _, ?_, hbel, by omega, ?_⟩
      · have := World.alloc_heap_new (w.alloc (.deferred (some []))) (.loop (recL fn a.tmps ps assign body w.heap.size .ready none))
        rwa [World.size_alloc] at this
      · have hb := hs1.fr.below hbel
        refine ⟨List.nodup_cons.2 ⟨fun hm => ?_, hs1.fr.nd⟩, fun d hd => ?_, fun l hl => (by rw [hrd] at hl; cases hl), fun hn => ?_⟩
        · obtain ⟨D, r1, r2, r3, r4⟩ := hs1.fr.ms _ hm
          cases r1
          have := (Array.getElem?_eq_some_iff.1 r3).1
          omega
        · rcases List.mem_cons.1 hd with h | h
          · subst h
            exact ⟨w.heap.size, rfl, hs1.chg.size, (Below.heap_alloc _ _ _ (by simp)).trans (World.alloc_heap_new w _), fun hi => by have := hs1.il _ hi; omega⟩
          · exact hb.ms d h
        · rcases hX with h | h
          · rw [hn] at h; cases h
          · rw [hrd] at h; cases h
    | some l0 =>
      obtain ⟨r0, hr0⟩ := hs1.fr.rd l0 hrd
      have hbel : Below w.heap.size w (w.alloc (.loop (recL fn a.tmps ps assign body r0.defers .ready none))) := (Below.refl _ w).alloc (Nat.le_refl _) _
      exact ⟨_, _, _, r0.defers, run_enterLoop_inner hr0 _ _ _ _ _, World.alloc_heap_new _ _, hbel, Nat.le_refl _, hs1.fr.below hbel⟩
  have hll : l < W1.heap.size := (Array.getElem?_eq_some_iff.1 hl1).1
  have hw0 : w0.heap.size ≤ w.heap.size := hs1.chg.size
  have P1 : Sim X w0 N ⟨sl, (mem 0 x0).blks, (mem 0 x0).arrs⟩ E { a with defers := mark ++ a.defers } W1 := hs1.turn hbel.size (hs1.chg.trans (Chg.of_below hbel X.X)) hfr1 fun b hb => hbel.block b (by
    rcases hb with hb | ⟨o, ho, _⟩
    · exact hs1.il b hb
    · exact (Array.getElem?_eq_some_iff.1 ho).1)
  have hG : ∀ t, t ∈ bn → E.B t = some ((E.B t).getD 0) := fun t ht => by
    have h1 := hbn t ht
    cases hq : (mem 0 x0).blks t with
    | none => rw [hq] at h1; cases h1
    | some y =>
      obtain ⟨b, vs, h2, _⟩ := hs1.blk t y.1 y.2 hq
      rw [h2]; rfl
  have hGX : ∀ t, t ∈ X.B0 → (E.B t).getD 0 = X.G t := fun t ht => by rw [hs1.kp t ht]; rfl
  have hIl : ¬ E.I l := fun h => by have := hs1.il l h; omega
  have hb := hit.1
  obtain ⟨fn', hf1, hf2, hf3⟩ := hit.1
  refine ⟨l, mark, W1, { target := .fn (.func f) lb, args := #[.func (.yield l) #[] #[]] }, W1, f, #[.func (.yield l) #[] #[]] ++ lb, W1, hent, ?_, fun _ _ => trivial, ?_, fun h => (by cases h), ?_⟩
  · simp only [resolve, hgv]
    simp [go_sem]
  · have h1 : fn'.body ≠ none := fun h => by simp [h] at hf2
    have h2 : fn'.name ≠ "runtime.NumGoroutine" := by simpa using hf3
    simp [invoke, callFunc, hf1, h1, h2]
  · have hpw := pureW_ok (w := w) (w' := W1) (E := E) (E' := .pure E.I) (fun b hb => hbel.block b (hs1.il b hb)) (fun _ h => h) hca hlb
    refine CallsIn.mono (callsIn_rd (hit.2 W1 lb E.I l (roundJ X w0 N sl bn (fun t => (E.B t).getD 0) E.I { a with defers := mark ++ a.defers } W1 l (recL fn a.tmps ps assign body dd) (fun n S' => ∃ x, Rel n x ∧ S' = mem n x) Q)
      (fun b hb => Nat.lt_of_lt_of_le (hs1.il b hb) hbel.size) (by simpa using hpw.1) (fun j v u h1 h2 => hpw.2 j v u h1 (by simpa using h2)) (roundJ_law (by omega) hfr1 hll)
      (roundJ_yield hB0 hst hps hpN hGX (by omega) hll fun k x vs h1 h2 XX I0 w1 => round k x vs h1 h2 XX I0 _ l w1 hGX) (fun n O F W hj => ?_) ?_)) ?_
    · obtain ⟨_, _, _, _, _, _, _, _, _, _, _, ⟨x, hx, _⟩, _⟩ := hj
      exact hM n x hx
    · exact ⟨fun b hb => hb.elim False.elim False.elim, fun _ h => h.elim, Nat.le_refl _, mem 0 x0, E, P1, hG, fun _ h => h, fun _ h => h.elim, fun _ h => h.elim, hIl, ⟨x0, hr0, rfl⟩, hl1⟩
    · rintro e W' ⟨⟨v, rfl⟩, k, O, F, ⟨rng, dis, sz, S', E', sim, kb, ki, ko, kf, kl, kk⟩, hk⟩
      cases k with
      | some n =>
        obtain ⟨⟨x, hrel, rfl⟩, hl⟩ := kk
        exact ⟨none, _, run_endLoop hl (by simp), _, E', done n x hrel (hk n rfl), sim.put hl (by omega) kl⟩
      | none =>
        obtain ⟨c, hc, hl⟩ := kk
        refine ⟨some c, _, run_endLoop hl (by simp), ?_⟩
        have hp := sim.put (r' := recL fn a.tmps ps assign body dd .exhausted (some c)) hl (by omega) kl
        cases c with
        | ret => exact wpIn_ret ⟨_, E', hc, hp⟩
        | exit id => exact wpIn_exit ⟨_, E', hc, hp⟩
        | _ => exact hc.elim
end
theorem lkV_stay {bn : List Nat} : ∀ {l : List (Nat × V)}, (l.all fun p => stay bn p.2) = true → ∀ t, stay bn (lkV t l) = true
  | [], _, _ => rfl
  | (k, v) :: r, h, t => by
    simp only [List.all_cons, Bool.and_eq_true] at h
    unfold lkV
    split
    · exact h.1
    · exact lkV_stay h.2 t
/-! ### A block that is not written any more -/
def fzW (t : Nat) (r : List F) : W → W
  | .loc n off => if n = t then .rd (r.drop off) else .loc n off
  | x => x
def fzC (t : Nat) : C → C
  | .p n off => if n = t then .un else .p n off
  | x => x
def fzP (t : Nat) : Bool × List C → Bool × List C
  | (b, cs) => (b, cs.map (fzC t))
def fzV (t : Nat) (r : List F) : V → V
  | .loc n off => if n = t then .rd (r.drop off) else .loc n off
  | .clo f fi ca => .clo f (fi.map (fzW t r)) (ca.map (fzW t r))
  | .c x => .c (fzC t x)
  | .agg xs => .agg (xs.map (fzC t))
  | .tup xs => .tup (xs.map (fzP t))
  | x => x
def fzB (t : Nat) : Option (TypeId × List C) → Option (TypeId × List C)
  | some (e, cs) => some (e, cs.map (fzC t))
  | none => none
theorem weak_fzB {X : Fr} {S : St} {t : Nat} {e : TypeId} {cs : List C} {r : List F} (h : S.blks t = some (e, cs)) (hr : frz cs = some r) (hX : (X.B0.all fun k => k != t) = true) : Weak X S ⟨fun j => fzV t r (S.slots j), fun j => if j = t then none else fzB t (S.blks j), S.arrs⟩ := by
  intro w0 N E act w hs
  obtain ⟨b, vs, hb, hblk, hreps, hnew⟩ := hs.blk t e cs h
  let E' : Env := ⟨fun j => if j = t then none else E.B j, E.L, fun c => E.I c ∨ c = b⟩
  have hI : ∀ c, E.I c → E'.I c := fun c h => .inl h
  have hB : ∀ n c, n ≠ t → E.B n = some c → E'.B n = some c := fun n c hn h => (if_neg hn).trans h
  have hBi : ∀ n c, E'.B n = some c → n ≠ t ∧ E.B n = some c := fun n c h => by
    have h : (if n = t then none else E.B n) = some c := h
    by_cases hn : n = t
    · rw [if_pos hn] at h; cases h
    · rw [if_neg hn] at h; exact ⟨hn, h⟩
  obtain ⟨hfr, hcs⟩ := frz_ok hr hreps
  have hrd : ∀ off, (∀ j x, (r.drop off)[j]? = some x → w.cell? ((⟨b, off, none⟩ : Addr).add j) = some (vs.getD (off + j) undef)) ∧ ∀ j x, (r.drop off)[j]? = some x → RepF w E'.I x (vs.getD (off + j) undef) := fun off => by
    have hone : ∀ j x, (r.drop off)[j]? = some x → vs.toList[off + j]? = some (vs.getD (off + j) undef) := fun j x hx => by
      rw [List.getElem?_drop] at hx
      have hlt : off + j < vs.toList.length := by rw [← hfr.1]; exact (List.getElem?_eq_some_iff.1 hx).1
      rw [List.getElem?_eq_getElem hlt, Array.getD_eq_getD_getElem?, Array.getElem?_eq_getElem (by simpa using hlt)]
      simp
    refine ⟨fun j x hx => ?_, fun j x hx => ?_⟩
    · rw [add_plain, hblk.cell, ← hone j x hx, Array.getElem?_toList]
    · have h1 := hone j x hx
      rw [List.getElem?_drop] at hx
      exact (hfr.2 (off + j) x _ hx h1).mono (fun _ _ => rfl) hI
  have hWs : ∀ {x : W} {u : Value}, RepW w E x u → RepW w E' (fzW t r x) u := fun {x u} hx => by
    cases hx with
    | f h => exact .f (h.mono (fun _ _ => rfl) hI)
    | agg h => exact .agg ⟨h.1, fun j x u hx hu => (h.2 j x u hx hu).mono (fun _ _ => rfl) hI⟩
    | loc hq =>
      rename_i n off c
      show RepW w E' (if n = t then .rd (r.drop off) else .loc n off) _
      by_cases hn : n = t
      · subst hn
        rw [hb] at hq; cases hq
        rw [if_pos rfl]
        exact .rd (fun j => vs.getD (off + j) undef) (.inr rfl) (hrd off).1 (hrd off).2
      · rw [if_neg hn]; exact .loc (hB _ _ hn hq)
    | rd us h1 h2 h3 => exact .rd us (hI _ h1) h2 fun j x hj => (h3 j x hj).mono (fun _ _ => rfl) hI
  have hWss : ∀ {xs : List W} {us : List Value}, RepWs w E xs us → RepWs w E' (xs.map (fzW t r)) us := fun {xs us} hx => ⟨by simp [hx.1], fun j x u hj hu => by
    rw [List.getElem?_map] at hj
    cases hq : xs[j]? with
    | none => simp [hq] at hj
    | some y => rw [hq] at hj; cases hj; exact hWs (hx.2 j y u hq hu)⟩
  have hCs : ∀ {x : C} {u : Value}, RepC w E x u → RepC w E' (fzC t x) u := fun {x u} hx => by
    cases hx with
    | f h => exact .f (h.mono (fun _ _ => rfl) hI)
    | o h h1 => exact .o h h1
    | un h => exact .un h
    | p h =>
      rename_i n off c
      show RepC w E' (if n = t then .un else .p n off) _
      by_cases hn : n = t
      · rw [if_pos hn]; exact .un rfl
      · rw [if_neg hn]; exact .p (hB _ _ hn h)
  have hRs : ∀ {xs : List C} {us : List Value}, Reps w E xs us → Reps w E' (xs.map (fzC t)) us := fun {xs us} hx => ⟨by simp [hx.1], fun j x u hj hu => by
    rw [List.getElem?_map] at hj
    cases hq : xs[j]? with
    | none => simp [hq] at hj
    | some y => rw [hq] at hj; cases hj; exact hCs (hx.2 j y u hq hu)⟩
  have hnb : ∀ n c, n ≠ t → E.B n = some c → c ≠ b := fun n c hn h e => hn (hs.inj _ _ _ h (e ▸ hb))
  have hlb := hs.bl t b hb
  refine ⟨E', hs.chg, hs.fr.mem (fun c hc => hc.imp id fun e => .inr (by rw [e]; exact blk_cells hblk)), hs.sz, fun j => ?_, fun n e' cs' hn => ?_, fun n n' c h1 h2 => hs.inj _ _ _ (hBi _ _ h1).2 (hBi _ _ h2).2, fun n c hn => ⟨(hs.bl _ _ (hBi _ _ hn).2).1, fun hi => ?_⟩, fun k e' n rows hk => ?_, fun k v c hv hc => ⟨(hs.al k v c hv hc).1, fun hi => ?_, fun n hn => (hs.al k v c hv hc).2.2 n (hBi _ _ hn).2⟩, hs.ai, fun n hn => ?_, hs.an, fun c hc => ?_, fun c hc => .inl (hs.i0 c hc), fun c hc => ?_, fun n hn => ?_⟩
  · show RepV w E' (fzV t r (S.slots j)) _
    have hsl := hs.slot j
    generalize act.tmps.getD j undef = u at hsl
    generalize S.slots j = v at hsl
    cases hsl with
    | un => exact .un
    | no => exact .no
    | c h => exact .c (hCs h)
    | agg h => exact .agg (hRs h)
    | tup hl h =>
      refine .tup (by simpa using hl) fun j x u hx hu => ?_
      rw [List.getElem?_map] at hx
      rename_i xs0 us0
      cases hj : xs0[j]? with
      | none => simp [hj] at hx
      | some x0 =>
      rw [hj] at hx; cases hx
      have := h j x0 u hj hu
      obtain ⟨q, xs⟩ := x0
      cases q with
      | false => obtain ⟨y, e, hy⟩ := this; subst e; exact ⟨_, rfl, hCs hy⟩
      | true => obtain ⟨us, e, hy⟩ := this; exact ⟨us, e, hRs hy⟩
    | loc hq =>
      rename_i n off c
      show RepV w E' (if n = t then .rd (r.drop off) else .loc n off) _
      by_cases hn : n = t
      · subst hn
        rw [hb] at hq; cases hq
        rw [if_pos rfl]
        exact .rd (fun j => vs.getD (off + j) undef) (.inr rfl) (hrd off).1 (hrd off).2
      · rw [if_neg hn]; exact .loc (hB _ _ hn hq)
    | rd us h1 h2 h3 => exact .rd us (hI _ h1) h2 fun j x hj => (h3 j x hj).mono (fun _ _ => rfl) hI
    | el h => exact .el h
    | clo h1 h2 => exact .clo (hWss h1) (hWss h2)
  · have hn : (if n = t then none else fzB t (S.blks n)) = some (e', cs') := hn
    by_cases hnt : n = t
    · rw [if_pos hnt] at hn; cases hn
    · rw [if_neg hnt] at hn
      cases hq : S.blks n with
      | none => rw [hq] at hn; cases hn
      | some z =>
      obtain ⟨e1, cs1⟩ := z
      rw [hq] at hn; cases hn
      obtain ⟨c, vs', h1, h2, h3, h4⟩ := hs.blk n _ _ hq
      exact ⟨c, vs', hB _ _ hnt h1, h2, hRs h3, h4⟩
  · rcases hi with hi | hi
    · exact (hs.bl _ _ (hBi _ _ hn).2).2 hi
    · exact hnb n c (hBi _ _ hn).1 (hBi _ _ hn).2 hi
  · obtain ⟨v, us, h1, h2, h3, h4, h5⟩ := hs.arr k e' n rows hk
    exact ⟨v, us, h1, h2, ⟨h3.1, fun j x u hx hu => (h3.2 j x u hx hu).mono (fun _ _ => rfl) hI⟩, h4, h5⟩
  · rcases hi with hi | hi
    · exact (hs.al k v c hv hc).2.1 hi
    · exact (hs.al k v c hv hc).2.2 t (hi ▸ hb)
  · have hn : (if n = t then none else fzB t (S.blks n)) = none := hn
    show (if n = t then none else E.B n) = none
    by_cases hnt : n = t
    · rw [if_pos hnt]
    · rw [if_neg hnt] at hn ⊢
      cases hq : S.blks n with
      | none => exact hs.bn n hq
      | some z => rw [hq] at hn; cases hn
  · rcases hc with hc | hc
    · exact hs.il c hc
    · exact hc ▸ hlb.1
  · rcases hc with hc | hc
    · exact hs.i1 c hc
    · exact .inr (hc ▸ hnew)
  · have : n ≠ t := by
      have := List.all_eq_true.1 hX n hn
      simpa using this
    exact hB _ _ this (hs.kp n hn)
/-! ### A drawn row with a tail: the operations from n on come in their order, behind all the others -/
def tailOk (ops : Array Oper) (n : Nat) : Bool := (List.range ops.size).all fun m => decide (m < n) || (List.range m).all fun i => ((msk ops.toList []).getD m 0).testBit i
section
variable {P : Program} {T : Nat → Option Ty} {ops : Array Oper} {X : Fr} {w0 : World} {N : Nat}
theorem ready_all (hok : okD ops = true) {listed : Array Bool} (hsz : listed.size = ops.size) (hr : Region.ready .any ops listed = []) (j : Nat) : j < ops.size → listed.getD j false = true := by
  induction j using Nat.strongRecOn with
  | _ j ih =>
    intro hj
    cases hq : listed.getD j false with
    | true => rfl
    | false =>
      exfalso
      have hlt : j < listed.size := by omega
      have : j ∈ Region.ready .any ops listed := mem_ready.2 ⟨by
        rw [Array.getD_eq_getD_getElem?, Array.getElem?_eq_getElem hlt] at hq ⊢
        simpa using hq, ops[j], Array.getElem?_eq_getElem hj, fun e he hb => by
          have h1 := (okD_ok hok).1 j _ (Array.getElem?_eq_getElem hj) e (by simpa using he) hb
          exact ih e.on h1 (by omega)⟩
      rw [hr] at this
      cases this
theorem closed_set {listed : Array Bool} {i : Nat} {o : Oper} (hlt' : i < listed.size) (ho : ops[i]? = some o) (hpre : ∀ e, e ∈ o.after → Region.binds .any e = true → listed.getD e.on false = true) (hcl : Closed ops (fun j => listed.getD j false)) : Closed ops (fun j => (listed.setIfInBounds i true).getD j false) := by
  have hset : ∀ j, j ≠ i → (listed.setIfInBounds i true).getD j false = listed.getD j false := fun j hj => by
    rw [Array.getD_eq_getD_getElem?, Array.getElem?_setIfInBounds_ne (by omega), ← Array.getD_eq_getD_getElem?]
  have hset' : (listed.setIfInBounds i true).getD i false = true := by
    rw [Array.getD_eq_getD_getElem?, Array.getElem?_setIfInBounds_self_of_lt hlt']; rfl
  intro j oj hj hDj e he hb
  by_cases hji : j = i
  · subst hji
    rw [ho] at hj; cases hj
    by_cases h2 : e.on = j
    · rw [h2]; exact hset'
    · show (listed.setIfInBounds j true).getD e.on false = true
      rw [hset _ h2]; exact hpre e (by simpa using he) hb
  · have hDj : (listed.setIfInBounds i true).getD j false = true := hDj
    rw [hset _ hji] at hDj
    have h3 := hcl j oj hj hDj e he hb
    by_cases h2 : e.on = i
    · rw [h2]; exact hset'
    · show (listed.setIfInBounds i true).getD e.on false = true
      rw [hset _ h2]; exact h3
/-- an operation of the tail is ready only when all ahead of it are done -/
theorem tail_before {n : Nat} (htail : tailOk ops n = true) {listed : Array Bool} {i : Nat} {o : Oper} (hlt' : i < listed.size) (ho : ops[i]? = some o) (hpre : ∀ e, e ∈ o.after → Region.binds .any e = true → listed.getD e.on false = true) (hcl : Closed ops (fun j => listed.getD j false)) (hi : n ≤ i) (j : Nat) (hj : j < i) : listed.getD j false = true := by
  have hlt : i < ops.size := (Array.getElem?_eq_some_iff.1 ho).1
  have h0 := List.all_eq_true.1 htail i (List.mem_range.2 hlt)
  simp only [Bool.or_eq_true, decide_eq_true_eq] at h0
  have h3 := List.all_eq_true.1 (h0.resolve_left (by omega)) j (List.mem_range.2 hj)
  have h4 : (msk ops.toList [])[i]? = some ((msk ops.toList []).getD i 0) := by
    cases hq : (msk ops.toList [])[i]? with
    | none =>
      rw [List.getD_eq_getElem?_getD, hq] at h3
      simp at h3
    | some m => rw [List.getD_eq_getElem?_getD, hq]; rfl
  have hset' : (listed.setIfInBounds i true).getD i false = true := by
    rw [Array.getD_eq_getD_getElem?, Array.getElem?_setIfInBounds_self_of_lt hlt']; rfl
  have := msk_ok (ops := ops) ops.toList [] [] (by simp) rfl (fun j m hj => by simp at hj) i _ h4 j h3 _ (closed_set hlt' ho hpre hcl) hset'
  rw [Array.getD_eq_getD_getElem?, Array.getElem?_setIfInBounds_ne (by omega), ← Array.getD_eq_getD_getElem?] at this
  exact this
theorem tail_any (hok : okD ops = true) {n : Nat} (htail : tailOk ops n = true) {F : Fence} {Q : Exit → Act → World → Prop} : ∀ (m fuel : Nat) (listed : Array Bool) (a : Act) (w : World), m ≤ ops.size - n → listed.size = ops.size → (∀ j, j < ops.size - m → listed.getD j false = true) → (∀ j, ops.size - m ≤ j → listed.getD j false = false) → listed.toList.countP id + fuel ≥ ops.size → Closed ops (fun j => listed.getD j false) →
    wpOpsIn F 0 P ops Q ((List.range m).map (ops.size - m + ·)) a w → wpAnyIn F 0 P .any ops Q fuel listed a w
  | 0, fuel, listed, a, w, _, hsz, h1, h2, hc, hcl, h => any_end (fun j hj => h1 j (by omega)) h fuel
  | m + 1, 0, listed, a, w, hm, hsz, h1, h2, hc, hcl, h => by
    exfalso
    have := count_all listed.toList (by rw [Array.length_toList, hsz]; omega) (ops.size - (m + 1)) (by simp [hsz]; omega)
    rw [Array.getElem?_toList] at this
    have h3 := h2 (ops.size - (m + 1)) (Nat.le_refl _)
    rw [Array.getD_eq_getD_getElem?, this] at h3
    cases h3
  | m + 1, fuel + 1, listed, a, w, hm, hsz, h1, h2, hc, hcl, h => by
    have hn : n ≤ ops.size - (m + 1) := by omega
    refine ⟨fun hr => ?_, fun i hi => ?_⟩
    · have := ready_all hok hsz hr (ops.size - (m + 1)) (by omega)
      rw [h2 _ (Nat.le_refl _)] at this
      cases this
    · obtain ⟨q1, o, ho, hpre⟩ := mem_ready.1 hi
      have hlt : i < ops.size := (Array.getElem?_eq_some_iff.1 ho).1
      have hlt' : i < listed.size := by omega
      have hif : listed.getD i false = false := by
        rw [Array.getD_eq_getD_getElem?, Array.getElem?_eq_getElem hlt'] at q1 ⊢
        simpa using q1
      have hie : i = ops.size - (m + 1) := by
        rcases Nat.lt_trichotomy i (ops.size - (m + 1)) with hq | hq | hq
        · rw [h1 i hq] at hif; cases hif
        · exact hq
        · have := tail_before htail hlt' ho hpre hcl (by omega) (ops.size - (m + 1)) hq
          rw [h2 _ (Nat.le_refl _)] at this
          cases this
      have e1 : (List.range (m + 1)).map (ops.size - (m + 1) + ·) = i :: (List.range m).map (ops.size - m + ·) := by
        rw [List.range_succ_eq_map, hie]
        simp only [List.map_cons, List.map_map, Nat.add_zero, List.cons.injEq, true_and]
        refine List.map_congr_left fun x hx => ?_
        simp only [Function.comp_def]
        omega
      rw [e1, wpOpsIn_cons] at h
      have hset : ∀ j, j ≠ i → (listed.setIfInBounds i true).getD j false = listed.getD j false := fun j hj => by
        rw [Array.getD_eq_getD_getElem?, Array.getElem?_setIfInBounds_ne (by omega), ← Array.getD_eq_getD_getElem?]
      have hset' : (listed.setIfInBounds i true).getD i false = true := by
        rw [Array.getD_eq_getD_getElem?, Array.getElem?_setIfInBounds_self_of_lt hlt']; rfl
      refine wpOpIn_mono (fun a w h => tail_any hok htail m fuel _ a w (by omega) (by simpa using hsz) (fun j hj => ?_) (fun j hj => ?_) ?_ (closed_set hlt' ho hpre hcl) h) h
      · by_cases hji : j = i
        · rw [hji]; exact hset'
        · rw [hset j hji]; exact h1 j (by omega)
      · rw [hset j (by omega)]; exact h2 j (by omega)
      · rw [Array.toList_setIfInBounds, count_set _ _ (by
          rw [Array.getElem?_toList, Array.getElem?_eq_getElem hlt']
          rw [Array.getD_eq_getD_getElem?, Array.getElem?_eq_getElem hlt'] at hif
          simpa using hif)]
        omega
theorem draw_tail (hT : ∀ t y, T t = some y → TyOk P t y) (hd : ∀ (i : Nat) (o : Oper), ops[i]? = some o → ∀ t, o.dst = some t → t < N) (hok : okD ops = true) {n : Nat} (hn : n < ops.size) (htail : tailOk ops n = true) {bx : List Nat} (hbx : ∀ (i : Nat) o d, ops[i]? = some o → isBox o.op = true → o.dst = some d → d ∈ bx) {rs : Nat → Ap} {rns : Nat → List Nat} {S0 : St}
    (hst : ∀ (i : Nat) o, i < n → ops[i]? = some o → StepR P T ops o (Sq rs (fun j => (ops[j]?).bind (·.dst)) S0 (fun _ => true) i) (rs i) (rns i) ∧ (isSt o.op = false → ∀ b ∈ rns i, b ∉ bx)) {Q : Exit → Act → World → Prop}
    (hQ : ∀ E a w, Sim X w0 N (Sq rs (fun j => (ops[j]?).bind (·.dst)) S0 (fun _ => true) n) E a w → wpOpsIn (rdF X.rd) 0 P ops Q ((List.range (ops.size - n)).map (n + ·)) a w) :
    ∀ (fuel : Nat) (listed : Array Bool) (E : Env) (a : Act) (w : World), listed.size = ops.size → (∀ j, n ≤ j → listed.getD j false = false) → listed.toList.countP id + fuel ≥ ops.size → Closed ops (fun j => listed.getD j false) →
      Sim X w0 N (Sq rs (fun j => (ops[j]?).bind (·.dst)) S0 (fun j => listed.getD j false) ops.size) E a w → wpAnyIn (rdF X.rd) 0 P .any ops Q fuel listed a w := by
  intro fuel
  induction fuel with
  | zero =>
    intro listed E a w hsz hno hcnt hcl hs
    exfalso
    have := count_all listed.toList (by rw [Array.length_toList, hsz]; omega) n (by simp [hsz]; omega)
    rw [Array.getElem?_toList] at this
    have h3 := hno n (Nat.le_refl _)
    rw [Array.getD_eq_getD_getElem?, this] at h3
    cases h3
  | succ fuel ih =>
    intro listed E a w hsz hno hcnt hcl hs
    by_cases hall : ∀ j, j < n → listed.getD j false = true
    · have key : ∀ m, m ≤ n → Sq rs (fun j => (ops[j]?).bind (·.dst)) S0 (fun j => listed.getD j false) m = Sq rs (fun j => (ops[j]?).bind (·.dst)) S0 (fun _ => true) m := by
        intro m
        induction m with
        | zero => intro _; rfl
        | succ m ih => intro hm; rw [Sq, Sq, ih (by omega), hall m (by omega)]
      have key2 : ∀ m, n ≤ m → m ≤ ops.size → Sq rs (fun j => (ops[j]?).bind (·.dst)) S0 (fun j => listed.getD j false) m = Sq rs (fun j => (ops[j]?).bind (·.dst)) S0 (fun j => listed.getD j false) n := by
        intro m
        induction m with
        | zero => intro h _; rw [Nat.le_zero.1 h]
        | succ m ih =>
          intro h hm
          by_cases e : n = m + 1
          · rw [e]
          · rw [Sq, hno m (by omega), if_neg (by simp)]; exact ih (by omega) (by omega)
      rw [key2 ops.size (by omega) (Nat.le_refl _), key n (Nat.le_refl _)] at hs
      have e2 : ops.size - (ops.size - n) = n := by omega
      exact tail_any hok htail (ops.size - n) (fuel + 1) listed a w (Nat.le_refl _) hsz (fun j hj => hall j (by omega)) (fun j hj => hno j (by omega)) hcnt hcl (by rw [e2]; exact hQ E a w hs)
    · refine ⟨fun hr => absurd (fun j hj => ready_all hok hsz hr j (by omega)) hall, fun i hi => ?_⟩
      obtain ⟨h1, o, ho, hpre⟩ := mem_ready.1 hi
      have hlt : i < ops.size := (Array.getElem?_eq_some_iff.1 ho).1
      have hlt' : i < listed.size := by omega
      have hif : listed.getD i false = false := by
        rw [Array.getD_eq_getD_getElem?, Array.getElem?_eq_getElem hlt'] at h1 ⊢
        simpa using h1
      have hset : ∀ j, j ≠ i → (listed.setIfInBounds i true).getD j false = listed.getD j false := fun j hj => by
        rw [Array.getD_eq_getD_getElem?, Array.getElem?_setIfInBounds_ne (by omega), ← Array.getD_eq_getD_getElem?]
      have hset' : (listed.setIfInBounds i true).getD i false = true := by
        rw [Array.getD_eq_getD_getElem?, Array.getElem?_setIfInBounds_self_of_lt hlt']; rfl
      have hin : i < n := by
        rcases Nat.lt_or_ge i n with h | h
        · exact h
        · exact absurd (fun j hj => tail_before htail hlt' ho hpre hcl h j (by omega)) hall
      have hDm : ∀ j, listed.getD j false = true → j < n := fun j hj => by
        rcases Nat.lt_or_ge j n with h | h
        · exact h
        · rw [hno j h] at hj; cases hj
      obtain ⟨hstep, hnext⟩ := out_of_turn (D := fun j => listed.getD j false) (D' := fun j => (listed.setIfInBounds i true).getD j false) (m := n) hok hbx hst hcl ho hin hDm hif (fun e he hb => hpre e (by simpa using he) hb) hset' hset
      refine StepR_wpOp hT hd ho hstep hs fun E' a' w' hs' => ih _ E' a' w' (by simpa using hsz) (fun j hj => by rw [hset j (by omega)]; exact hno j hj) ?_ (closed_set hlt' ho hpre hcl) (by rw [← hnext]; exact hs')
      rw [Array.toList_setIfInBounds, count_set _ _ (by
        rw [Array.getElem?_toList, Array.getElem?_eq_getElem hlt']
        rw [Array.getD_eq_getD_getElem?, Array.getElem?_eq_getElem hlt'] at hif
        simpa using hif)]
      omega
end

section
variable {P : Program} {T : Nat → Option Ty} {ops : Array Oper} {X : Fr} {w0 : World} {N : Nat}
/-- what a prefix of a drawn row leads to -/
theorem draw_pre {S : St} {K : St → Prop} {bx : List Nat} (hT : ∀ t y, T t = some y → TyOk P t y) (hN : okN N ops = true) (hok : okD ops = true) {n : Nat} (hn : n < ops.size) (htail : tailOk ops n = true) (hbx : boxes ops = bx) (h : exB P T ops bx (ops.toList.take n) K S)
    {Q : Exit → Act → World → Prop} (hK : ∀ S' E a w, K S' → Sim X w0 N S' E a w → wpOpsIn (rdF X.rd) 0 P ops Q ((List.range (ops.size - n)).map (n + ·)) a w) {E : Env} {a : Act} {w : World} (hs : Sim X w0 N S E a w) :
    wpAnyIn (rdF X.rd) 0 P .any ops Q ops.size (Array.replicate ops.size false) a { w with drawn := w.drawn + 1 } := by
  obtain ⟨rs, rns, h1, h2⟩ := exD_run _ _ (exB_D _ _ h)
  have hlen : (ops.toList.take n).length = n := by rw [List.length_take, Array.length_toList]; omega
  have hds : ∀ m, m ≤ n → Sq rs (fun j => ((ops.toList.take n)[j]?).bind (·.dst)) S (fun _ => true) m = Sq rs (fun j => (ops[j]?).bind (·.dst)) S (fun _ => true) m := fun m hm => sq_ds m fun j hj => by
    rw [List.getElem?_take, if_pos (by omega), Array.getElem?_toList]
  rw [hlen, hds n (Nat.le_refl _)] at h2
  have hbx' : ∀ (i : Nat) o d, ops[i]? = some o → isBox o.op = true → o.dst = some d → d ∈ bx := fun i o d ho hb hd => by
    rw [← hbx]
    refine List.mem_filterMap.2 ⟨o, ?_, by rw [if_pos hb, hd]⟩
    rw [← Array.getElem?_toList] at ho
    exact List.mem_of_getElem? ho
  have hfalse : (fun j => (Array.replicate ops.size false).getD j false) = fun _ => false := by
    funext j
    rw [Array.getD_eq_getD_getElem?, Array.getElem?_replicate]
    split <;> rfl
  have hSq : ∀ n, Sq rs (fun j => (ops[j]?).bind (·.dst)) S (fun _ => false) n = S := by
    intro n
    induction n with
    | zero => rfl
    | succ n ih => rw [Sq, ih]; rfl
  have hs' : Sim X w0 N S E a { w with drawn := w.drawn + 1 } := hs.grow (w' := { w with drawn := w.drawn + 1 }) ⟨rfl, rfl, rfl, Nat.le_refl _, fun _ _ => rfl⟩
  refine draw_tail (rns := rns) hT (okN_ok hN) hok hn htail hbx' (fun i oi hi hoi => ?_) (fun E' a' w' hs2 => hK _ E' a' w' h2 hs2) ops.size _ E a _ (by simp) (fun j _ => congrFun hfalse j) (by omega) ?_ (by rw [hfalse, hSq]; exact hs')
  · have := h1 i oi (by rw [List.getElem?_take, if_pos hi, Array.getElem?_toList]; exact hoi)
    rw [hds i (by omega)] at this
    exact this
  · rw [hfalse]
    intro j o _ h
    cases h
theorem dw_tail {id : Nat} {S : St} {R : St → Prop} {Q : Exit → St → Prop} (n : Nat) (bx : List Nat) (hT : ∀ t y, T t = some y → TyOk P t y) (hm : P.follows .mixedOrders = true) (hN : okN N ops = true) (hok : okD ops = true) (hn : n < ops.size) (htail : tailOk ops n = true) (hbx : boxes ops = bx)
    (h : exB P T ops bx (ops.toList.take n) (fun S' => Later (exU P T X w0 N ops (ops.toList.drop n) R) S') S) : DW P X w0 N (.region id ops true) (thenD R Q) S := fun E a w hs => by
  refine wpIn_region_any hm (draw_pre hT hN hok hn htail hbx h (fun S' E a w hk hs2 => ?_) hs)
  have hk : exU P T X w0 N ops ((ops.toList.drop n).take (ops.size - n)) R S' := by
    rw [List.take_of_length_le (by simp)]; exact hk
  exact exU_ok (Q := fun e a' w' => ∃ S' E', thenD R Q e S' ∧ Sim X w0 N S' E' a' w') hT (okN_ok hN) (fun S' E' _ _ hq hs => ⟨S', E', hq, hs⟩) (ops.size - n) n hk hs2
theorem dy_tail {I : Nat → Prop} {J : YJ} {k : Option Nat} {id : Nat} {S : St} {R : Option Nat → St → Prop} {Q : Exit → Option Nat → St → Prop} (hJ : JLaw J) (n : Nat) (bx : List Nat) (hT : ∀ t y, T t = some y → TyOk P t y) (hm : P.follows .mixedOrders = true) (hN : okN N ops = true) (hok : okD ops = true) (hn : n < ops.size) (htail : tailOk ops n = true) (hbx : boxes ops = bx)
    (h : exB P T ops bx (ops.toList.take n) (fun S' => Later (exY P T I J N ops (ops.toList.drop n) R k) S') S) : DY P I J N (.region id ops true) (thenY R Q) k S := fun E a w hs => by
  refine wpIn_region_any hm (draw_pre (X := frY E) (w0 := w) hT hN hok hn htail hbx h (fun S' E' a' w' hk hs2 => ?_) hs.sim)
  have hk : exY P T I J N ops ((ops.toList.drop n).take (ops.size - n)) R k S' := by
    rw [List.take_of_length_le (by simp)]; exact hk
  exact exY_ok (Q := fun e a' w' => ∃ k' S' E', thenY R Q e k' S' ∧ SimY I J N k' S' E' a' w') hJ hT (okN_ok hN) (fun k' S' E' _ _ hq hs => ⟨k', S', E', hq, hs⟩) (ops.size - n) n hk (simY_of hJ hs hs2)
end
/-! ### Scopes with no jump -/
def noGo (Q : Exit → St → Prop) : Exit → St → Prop
  | .goto _, _ => False
  | e, S => Q e S
def noGoY (Q : Exit → Option Nat → St → Prop) : Exit → Option Nat → St → Prop
  | .goto _, _, _ => False
  | e, k, S => Q e k S
theorem dw_scope {P : Program} {X : Fr} {w0 : World} {N : Nat} {S : St} {Q : Exit → St → Prop} {c : Code} (hX : X.rd = none) (h : DW P X w0 N c (noGo Q) S) : DW P X w0 N (.scope c) Q S := fun E a w hs => by
  have h1 := h E a w hs
  rw [hX] at h1 ⊢
  refine wpIn_wide.2 (wp_scope_straight (wp_mono (wpIn_wide.1 h1) ?_))
  rintro e a' w' ⟨S', E', hq, hs'⟩
  cases e <;> first | exact hq.elim | exact ⟨S', E', hq, hs'⟩
theorem dy_scope {P : Program} {I : Nat → Prop} {J : YJ} {N : Nat} {k : Option Nat} {S : St} {Q : Exit → Option Nat → St → Prop} {c : Code} (h : DY P I J N c (noGoY Q) k S) : DY P I J N (.scope c) Q k S := fun E a w hs => by
  have h1 := h E a w hs
  refine wpIn_wide.2 (wp_scope_straight (wp_mono (wpIn_wide.1 h1) ?_))
  rintro e a' w' ⟨k', S', E', hq, hs'⟩
  cases e <;> first | exact hq.elim | exact ⟨k', S', E', hq, hs'⟩
/-! ### Loops of an iterator -/
section
variable {P : Program} {I : Nat → Prop} {J : YJ} {N : Nat} {T : Nat → Option Ty} {Q : Exit → Option Nat → St → Prop} {k : Option Nat} {S : St}
def rangeY (id tI t2 : Nat) (j : Nat) (G : Option Nat → St → Prop) (Q : Exit → Option Nat → St → Prop) : Exit → Option Nat → St → Prop
  | .normal, k, S => S.slots tI = .c (.f (.s (.int .i64 j))) ∧ G k ⟨upd (upd S.slots t2 (.c (.f (.s (.int .i64 (j + 1 : Nat)))))) tI (.c (.f (.s (.int .i64 (j + 1 : Nat))))), S.blks, S.arrs⟩
  | .exit i, k, S => if i = id then Q .normal k S else Q (.exit i) k S
  | e, k, S => Q e k S
theorem dy_range {ι : Type} (n : Nat) (kf : Nat → ι → Option Nat) (If : Nat → ι → St) (Jf : Nat → ι → Prop) (x0 : ι) {id r1 r2 tI tN tC t2 : Nat} {ty ty2 y1 y2 y3 : TypeId} {p1 p2 p3 : String} {a1 a2 a3 : Array Edge} {B : Code} (hJ : JLaw J)
    (hn : n < 9223372036854775807) (hT : ∀ t y, T t = some y → TyOk P t y) (hN : tC < N ∧ t2 < N ∧ tI < N)
    (hI : ∀ k x, (If k x).slots tI = .c (.f (.s (.int .i64 k))) ∧ (If k x).slots tN = .c (.f (.s (.int .i64 n))))
    (hk0 : k = kf 0 x0) (h0 : ∀ X : Fr, X.B0 = [] → Weak X S (If 0 x0)) (hJ0 : Jf 0 x0)
    (hB : ∀ j x, Jf j x → j < n → DY P I J N B (rangeY id tI t2 j (fun k' S' => ∃ x', Jf (j + 1) x' ∧ k' = kf (j + 1) x' ∧ ∀ X : Fr, X.B0 = [] → Weak X S' (If (j + 1) x')) Q) (kf j x) ⟨upd (If j x).slots tC (.c (.f (.s (.bool true)))), (If j x).blks, (If j x).arrs⟩)
    (hE : ∀ x, Jf n x → Q .normal (kf n x) ⟨upd (If n x).slots tC (.c (.f (.s (.bool false)))), (If n x).blks, (If n x).arrs⟩) :
    DY P I J N (.block id (.loop (.seq (.region r1 #[⟨some tC, .binOp .lss ty (.tmp tI) (.tmp tN) ty2, y1, p1, a1, none⟩] false) (.seq (.cond (.tmp tC) .skip (.exit id)) (.seq B (.region r2 #[⟨some t2, .binOp .add ty (.tmp tI) (.const (.int .i64 1)) ty2, y2, p2, a2, none⟩, ⟨some tI, .move (.tmp t2), y3, p3, a3, none⟩] false)))))) Q k S := by
  have okN1 : okN N #[⟨some tC, .binOp .lss ty (.tmp tI) (.tmp tN) ty2, y1, p1, a1, none⟩] = true := by simp [okN, hN.1]
  have okN2 : okN N #[⟨some t2, .binOp .add ty (.tmp tI) (.const (.int .i64 1)) ty2, y2, p2, a2, none⟩, ⟨some tI, .move (.tmp t2), y3, p3, a3, none⟩] = true := by simp [okN, hN.2]
  refine dy_block ?_
  refine dy_loop (ι := {x : Nat × ι // x.1 ≤ n ∧ Jf x.1 x.2}) hJ (fun x => kf x.1.1 x.1.2) (fun x => If x.1.1 x.1.2) (fun x => n - x.1.1) ⟨(0, x0), Nat.zero_le _, hJ0⟩ hk0 h0 ?_
  rintro ⟨⟨j, x⟩, hj, hJj⟩
  simp only at hj hJj ⊢
  obtain ⟨h1, h2⟩ := hI j x
  have hB := hB j x hJj
  have hE : n = j → Q .normal (kf j x) ⟨upd (If j x).slots tC (.c (.f (.s (.bool false)))), (If j x).blks, (If j x).arrs⟩ := fun e => by subst e; exact hE x hJj
  generalize If j x = S0 at h1 h2 hB hE
  generalize kf j x = k0 at hB hE
  obtain ⟨s, b, ar⟩ := S0
  simp only at h1 h2 hB hE
  refine dy_seq fun R hR => ?_
  refine dy_rowY hJ hT okN1 ?_
  show exY P T I J N _ [_] R k0 ⟨s, b, ar⟩
  rw [exY_cons]
  simp only [gOf, gdV, gd2_t]
  rw [RunY_eq]
  simp only [stops, eff3, effd, ev, h1, h2, bin, if_true, true_and, kput_iff, exY_nil, putS]
  refine hR _ _ ?_
  rcases Nat.lt_or_ge j n with hlt | hge
  · have hc : decide ((j : Int) < (n : Int)) = true := by simpa using hlt
    rw [hc]
    refine dy_seq fun R2 hR2 => ?_
    refine dy_cond_t (by simp [ev, upd]) ?_
    refine dy_skip ?_
    refine hR2 _ _ ?_
    refine dy_seq fun R3 hR3 => ?_
    refine dy_mono (hB hlt) fun e k' S' hq => ?_
    cases e with
    | normal =>
      obtain ⟨q1, x', hJ', hk', hw⟩ := hq
      refine hR3 _ _ ?_
      have := dy_rowY (P := P) (T := T) (I := I) (J := J) (N := N) (k := k') (S := S') (id := r2) (Q := inBlockY id Q) (R := fun k'' S'' => ∃ j' : {x : Nat × ι // x.1 ≤ n ∧ Jf x.1 x.2}, n - j'.1.1 < n - j ∧ k'' = kf j'.1.1 j'.1.2 ∧ ∀ X : Fr, X.B0 = [] → Weak X S'' (If j'.1.1 j'.1.2)) hJ hT okN2 ?_
      · refine dy_mono this fun e k S hq => ?_
        cases e <;> exact hq
      obtain ⟨s', b', ar'⟩ := S'
      simp only at q1 hw
      show exY P T I J N _ [_, _] _ k' ⟨s', b', ar'⟩
      rw [exY_cons]
      simp only [gOf, gdV, gd2_t]
      rw [RunY_eq]
      have hwr : (IntKind.i64).wrap ((j : Int) + 1) = ((j + 1 : Nat) : Int) := by
        have := wrap_nat (n := j) (by omega)
        simpa using this
      simp only [stops, eff3, effd, ev, q1, cv, bin, if_true, true_and, kput_iff, putS, hwr]
      rw [exY_cons]
      simp only [gOf, gdV, gd2_t]
      rw [RunY_eq]
      simp only [stops, eff3, effd, ev, true_and, kput_iff, putS, upd_same, exY_nil]
      exact ⟨⟨(j + 1, x'), hlt, hJ'⟩, by simp only; omega, hk', hw⟩
    | exit i =>
      simp only [rangeY] at hq
      simp only [thenY, inBlockY]
      exact hq
    | _ => exact hq
  · have hc : decide ((j : Int) < (n : Int)) = false := by simpa using hge
    rw [hc]
    refine dy_seq fun R2 hR2 => ?_
    refine dy_cond_f (by simp [ev, upd]) ?_
    refine dy_exit ?_
    simp only [thenY, inBlockY, if_true]
    exact hE (by omega)
end
/-! ### What an iterator over a list hands out -/
def elL {α : Type} (l : List α) (f : α → List V) : Nat → Option (List V) := fun k => (l[k]?).map f
theorem elL_some {α : Type} {l : List α} {f : α → List V} {k : Nat} {vs : List V} (h : elL l f k = some vs) : ∃ hk : k < l.length, vs = f (l[k]'hk) := by
  unfold elL at h
  cases hq : l[k]? with
  | none => rw [hq] at h; cases h
  | some x =>
    rw [hq] at h
    obtain ⟨hk, e⟩ := List.getElem?_eq_some_iff.1 hq
    cases h
    exact ⟨hk, by rw [e]⟩
theorem elL_none {α : Type} {l : List α} {f : α → List V} {k : Nat} (h : elL l f k = none) : l.length ≤ k := by
  unfold elL at h
  simpa using h
theorem elL_at {α : Type} {l : List α} {f : α → List V} {k : Nat} (hk : k < l.length) : elL l f k = some (f (l[k]'hk)) := by
  unfold elL
  rw [List.getElem?_eq_getElem hk]; rfl
theorem elL_end {α : Type} {l : List α} {f : α → List V} {k : Nat} (hk : l.length ≤ k) : elL l f k = none := by
  unfold elL
  rw [List.getElem?_eq_none hk]; rfl
end Go.Dl
