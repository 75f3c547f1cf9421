/-
  The walk's own set of rules: a drawn row with a tail behind which a few plain operations (moves, parts of a tuple) may float.
-/
import Derived.Test.YtajokeimipllcaaDx
set_option linter.unusedSimpArgs false
set_option linter.unusedVariables false
namespace Go.Dl
def freeE : Op → Bool
  | .extract .. => true
  | op => freeOp op
def tailOkF (ops : Array Oper) (n : Nat) (fl : List Nat) : Bool := (List.range ops.size).all fun m => decide (m < n) || (List.range m).all fun i => fl.contains i || ((msk ops.toList []).getD m 0).testBit i
/-- the operation may be taken as soon as it is ready -/
def floatOk (ops : Array Oper) (n i : Nat) : Bool := decide (i < n) && match ops[i]? with
  | some oi => oi.guard.isNone && freeE oi.op && (List.range ops.size).all fun j => j == i || ((msk ops.toList []).getD i 0).testBit j || match ops[j]? with
    | some oj => oj.after.any (fun e => Region.binds .any e && e.on == i) || oi.apart ops oj
    | none => true
  | none => false
section
variable {P : Program} {T : Nat → Option Ty} {ops : Array Oper} {X : Fr} {w0 : World} {N : Nat} {S : St}
theorem freeE_ok (hT : ∀ t y, T t = some y → TyOk P t y) {o : Oper} (hf : freeE o.op = true) {K : St → Prop} {E : Env} {a : Act} {w : World} (h : eff3 P T o.dst o.op K S) (hs : Sim X w0 N S E a w) :
    ∃ v u, RepV w E v u ∧ K ⟨putS S.slots o.dst v, S.blks, S.arrs⟩ ∧ (∀ w', (execOp a.eval o).run P w' = .ok (.value u) w') ∧ ∀ w', o.about P w' a.eval = none := by
  obtain ⟨dst, op, type, pos, after, guard⟩ := o
  simp only at hf h
  cases op with
  | extract x i =>
    simp only [eff3, effd] at h
    cases hx : ev S x with
    | tup xs =>
      rw [hx] at h
      simp only at h
      have hx' := hx ▸ hs.ev x
      generalize hu : a.eval x = u at hx'
      cases hx' with
      | @tup _ us hl hxx =>
        have key : ∀ q, xs[i]? = some q → ∃ u, us[i]? = some u ∧ RepP w E q u := fun q hq => by
          have hi : i < us.size := by rw [← hl]; exact (List.getElem?_eq_some_iff.1 hq).1
          exact ⟨us[i], Array.getElem?_eq_getElem hi, hxx i q _ hq (Array.getElem?_eq_getElem hi)⟩
        cases hq : xs[i]? with
        | none => rw [hq] at h; exact h.elim
        | some q =>
          obtain ⟨u, h1, h2⟩ := key q hq
          rw [hq] at h
          obtain ⟨b, cs⟩ := q
          cases b with
          | true =>
            obtain ⟨vs, rfl, h2⟩ := h2
            exact ⟨_, _, .agg h2, kput_iff.1 h.2, fun w' => exec_val rfl (by simp [hu, Instr.extract, h1]), fun w' => rfl⟩
          | false =>
            rcases cs with _ | ⟨c, _ | ⟨c', r⟩⟩
            · exact h.elim
            · obtain ⟨z, hz, h2⟩ := h2
              cases hz
              exact ⟨_, _, repN h2, kput_iff.1 h.2, fun w' => exec_val rfl (by simp [hu, Instr.extract, h1]), fun w' => rfl⟩
            · exact h.elim
    | _ => rw [hx] at h; exact h.elim
  | move x => exact free_ok (o := ⟨dst, .move x, type, pos, after, guard⟩) hT rfl h hs
  | nilCheck x => exact free_ok (o := ⟨dst, .nilCheck x, type, pos, after, guard⟩) hT rfl h hs
  | fieldAddr t x f => exact free_ok (o := ⟨dst, .fieldAddr t x f, type, pos, after, guard⟩) hT rfl h hs
  | _ => cases hf
theorem tail_beforeF {n : Nat} {fl : List Nat} (htail : tailOkF ops n fl = true) {listed : Array Bool} {i : Nat} {o : Oper} (hlt' : i < listed.size) (ho : ops[i]? = some o) (hpre : ∀ e, e ∈ o.after → Region.binds .any e = true → listed.getD e.on false = true) (hcl : Closed ops (fun j => listed.getD j false)) (hi : n ≤ i) (j : Nat) (hj : j < i) (hf : fl.contains j = false) : listed.getD j false = true := by
  have hlt : i < ops.size := (Array.getElem?_eq_some_iff.1 ho).1
  have h0 := List.all_eq_true.1 htail i (List.mem_range.2 hlt)
  simp only [Bool.or_eq_true, decide_eq_true_eq] at h0
  have h3 := List.all_eq_true.1 (h0.resolve_left (by omega)) j (List.mem_range.2 hj)
  rw [hf, Bool.false_or] at h3
  have h4 : (msk ops.toList [])[i]? = some ((msk ops.toList []).getD i 0) := by
    cases hq : (msk ops.toList [])[i]? with
    | none =>
      rw [List.getD_eq_getElem?_getD, hq] at h3
      simp at h3
    | some m => rw [List.getD_eq_getElem?_getD, hq]; rfl
  have hset' : (listed.setIfInBounds i true).getD i false = true := by
    rw [Array.getD_eq_getD_getElem?, Array.getElem?_setIfInBounds_self_of_lt hlt']; rfl
  have := msk_ok (ops := ops) ops.toList [] [] (by simp) rfl (fun j m hj => by simp at hj) i _ h4 j h3 _ (closed_set hlt' ho hpre hcl) hset'
  rw [Array.getD_eq_getD_getElem?, Array.getElem?_setIfInBounds_ne (by omega), ← Array.getD_eq_getD_getElem?] at this
  exact this
theorem float_free {n i : Nat} {o : Oper} (h : floatOk ops n i = true) (ho : ops[i]? = some o) {listed : Array Bool} (hsz : listed.size = ops.size) (hpre : ∀ e, e ∈ o.after → Region.binds .any e = true → listed.getD e.on false = true) (hcl : Closed ops (fun j => listed.getD j false)) :
    Region.free .any ops listed i = true ∧ o.guard = none ∧ freeE o.op = true ∧ i < n := by
  have hlt : i < ops.size := (Array.getElem?_eq_some_iff.1 ho).1
  have hlt' : i < listed.size := by omega
  simp only [floatOk, ho, Bool.and_eq_true, decide_eq_true_eq] at h
  obtain ⟨h0, ⟨h1, h2⟩, h3⟩ := h
  refine ⟨?_, by simpa using h1, h2, h0⟩
  simp only [Region.free, ho]
  refine List.all_eq_true.2 fun j hj => ?_
  have h4 := List.all_eq_true.1 h3 j hj
  simp only [Bool.or_eq_true, beq_iff_eq] at h4 ⊢
  rcases h4 with (h4 | h4) | h4
  · exact .inl (.inl h4)
  · by_cases hji : j = i
    · exact .inl (.inl hji)
    refine .inl (.inr ?_)
    have h5 : (msk ops.toList [])[i]? = some ((msk ops.toList []).getD i 0) := by
      cases hq : (msk ops.toList [])[i]? with
      | none =>
        rw [List.getD_eq_getElem?_getD, hq] at h4
        simp at h4
      | some m => rw [List.getD_eq_getElem?_getD, hq]; rfl
    have hset' : (listed.setIfInBounds i true).getD i false = true := by
      rw [Array.getD_eq_getD_getElem?, Array.getElem?_setIfInBounds_self_of_lt hlt']; rfl
    have := msk_ok (ops := ops) ops.toList [] [] (by simp) rfl (fun j m hj => by simp at hj) i _ h5 j h4 _ (closed_set hlt' ho hpre hcl) hset'
    rw [Array.getD_eq_getD_getElem?, Array.getElem?_setIfInBounds_ne (fun e => hji e.symm), ← Array.getD_eq_getD_getElem?] at this
    have hj' : j < listed.size := by rw [hsz]; exact List.mem_range.1 hj
    rw [Array.getD_eq_getD_getElem?, Array.getElem?_eq_getElem hj'] at this ⊢
    simpa using this
  · exact .inr (by cases hq : ops[j]? with | none => rfl | some oj => rw [hq] at h4; simpa using h4)
theorem tail_anyF (hok : okD ops = true) {n : Nat} {fl : List Nat} (hfl : ∀ i, i ∈ fl → i < n) (htail : tailOkF ops n fl = true) {F : Fence} {Q : Exit → Act → World → Prop} : ∀ (m fuel : Nat) (listed : Array Bool) (a : Act) (w : World), m ≤ ops.size - n → listed.size = ops.size → (∀ j, j < ops.size - m → listed.getD j false = true) → (∀ j, ops.size - m ≤ j → listed.getD j false = false) → listed.toList.countP id + fuel ≥ ops.size → Closed ops (fun j => listed.getD j false) →
    wpOpsIn F 0 P ops Q ((List.range m).map (ops.size - m + ·)) a w → wpAnyIn F 0 P .any ops Q fuel listed a w
  | 0, fuel, listed, a, w, _, hsz, h1, h2, hc, hcl, h => any_end (fun j hj => h1 j (by omega)) h fuel
  | m + 1, 0, listed, a, w, hm, hsz, h1, h2, hc, hcl, h => by
    exfalso
    have := count_all listed.toList (by rw [Array.length_toList, hsz]; omega) (ops.size - (m + 1)) (by simp [hsz]; omega)
    rw [Array.getElem?_toList] at this
    have h3 := h2 (ops.size - (m + 1)) (Nat.le_refl _)
    rw [Array.getD_eq_getD_getElem?, this] at h3
    cases h3
  | m + 1, fuel + 1, listed, a, w, hm, hsz, h1, h2, hc, hcl, h => by
    have hn : n ≤ ops.size - (m + 1) := by omega
    refine ⟨fun hr => ?_, fun i hi => ?_⟩
    · have := ready_all hok hsz hr (ops.size - (m + 1)) (by omega)
      rw [h2 _ (Nat.le_refl _)] at this
      cases this
    · obtain ⟨q1, o, ho, hpre⟩ := mem_ready.1 hi
      have hlt : i < ops.size := (Array.getElem?_eq_some_iff.1 ho).1
      have hlt' : i < listed.size := by omega
      have hif : listed.getD i false = false := by
        rw [Array.getD_eq_getD_getElem?, Array.getElem?_eq_getElem hlt'] at q1 ⊢
        simpa using q1
      have hie : i = ops.size - (m + 1) := by
        rcases Nat.lt_trichotomy i (ops.size - (m + 1)) with hq | hq | hq
        · rw [h1 i hq] at hif; cases hif
        · exact hq
        · have := tail_beforeF htail hlt' ho hpre hcl (by omega) (ops.size - (m + 1)) hq (by
            cases hb : fl.contains (ops.size - (m + 1)) with
            | false => rfl
            | true => have := hfl _ (by simpa using hb); omega)
          rw [h2 _ (Nat.le_refl _)] at this
          cases this
      have e1 : (List.range (m + 1)).map (ops.size - (m + 1) + ·) = i :: (List.range m).map (ops.size - m + ·) := by
        rw [List.range_succ_eq_map, hie]
        simp only [List.map_cons, List.map_map, Nat.add_zero, List.cons.injEq, true_and]
        refine List.map_congr_left fun x hx => ?_
        simp only [Function.comp_def]
        omega
      rw [e1, wpOpsIn_cons] at h
      have hset : ∀ j, j ≠ i → (listed.setIfInBounds i true).getD j false = listed.getD j false := fun j hj => by
        rw [Array.getD_eq_getD_getElem?, Array.getElem?_setIfInBounds_ne (by omega), ← Array.getD_eq_getD_getElem?]
      have hset' : (listed.setIfInBounds i true).getD i false = true := by
        rw [Array.getD_eq_getD_getElem?, Array.getElem?_setIfInBounds_self_of_lt hlt']; rfl
      refine wpOpIn_mono (fun a w h => tail_anyF hok hfl htail m fuel _ a w (by omega) (by simpa using hsz) (fun j hj => ?_) (fun j hj => ?_) ?_ (closed_set hlt' ho hpre hcl) h) h
      · by_cases hji : j = i
        · rw [hji]; exact hset'
        · rw [hset j hji]; exact h1 j (by omega)
      · rw [hset j (by omega)]; exact h2 j (by omega)
      · rw [Array.toList_setIfInBounds, count_set _ _ (by
          rw [Array.getElem?_toList, Array.getElem?_eq_getElem hlt']
          rw [Array.getD_eq_getD_getElem?, Array.getElem?_eq_getElem hlt'] at hif
          simpa using hif)]
        omega
theorem draw_tailF (hX : X.rd = none) (hsel : Region.noSelect ops = true) (hT : ∀ t y, T t = some y → TyOk P t y) (hd : ∀ (i : Nat) (o : Oper), ops[i]? = some o → ∀ t, o.dst = some t → t < N) (hok : okD ops = true) {n : Nat} (hn : n < ops.size) {fl : List Nat} (hfl : (fl.all fun i => floatOk ops n i) = true) (htail : tailOkF ops n fl = true) {bx : List Nat} (hbx : ∀ (i : Nat) o d, ops[i]? = some o → isBox o.op = true → o.dst = some d → d ∈ bx) {rs : Nat → Ap} {rns : Nat → List Nat} {S0 : St}
    (hst : ∀ (i : Nat) o, i < n → ops[i]? = some o → StepR P T ops o (Sq rs (fun j => (ops[j]?).bind (·.dst)) S0 (fun _ => true) i) (rs i) (rns i) ∧ (isSt o.op = false → ∀ b ∈ rns i, b ∉ bx)) {R : St → Prop}
    (hQ : ∀ E a w, Sim X w0 N (Sq rs (fun j => (ops[j]?).bind (·.dst)) S0 (fun _ => true) n) E a w → wpOpsIn (rdF X.rd) 0 P ops (anyQ X w0 N R) ((List.range (ops.size - n)).map (n + ·)) a w) :
    ∀ (fuel : Nat) (listed : Array Bool) (E : Env) (a : Act) (w : World), listed.size = ops.size → (∀ j, n ≤ j → listed.getD j false = false) → listed.toList.countP id + fuel ≥ ops.size → Closed ops (fun j => listed.getD j false) →
      Sim X w0 N (Sq rs (fun j => (ops[j]?).bind (·.dst)) S0 (fun j => listed.getD j false) ops.size) E a w → wpAnyIn (rdF X.rd) 0 P .any ops (anyQ X w0 N R) fuel listed a w := by
  have hfl' : ∀ i, i ∈ fl → floatOk ops n i = true := fun i hi => List.all_eq_true.1 hfl i hi
  have hfn : ∀ i, i ∈ fl → i < n := fun i hi => by
    have := hfl' i hi
    simp only [floatOk, Bool.and_eq_true, decide_eq_true_eq] at this
    exact this.1
  intro fuel
  induction fuel with
  | zero =>
    intro listed E a w hsz hno hcnt hcl hs
    exfalso
    have := count_all listed.toList (by rw [Array.length_toList, hsz]; omega) n (by simp [hsz]; omega)
    rw [Array.getElem?_toList] at this
    have h3 := hno n (Nat.le_refl _)
    rw [Array.getD_eq_getD_getElem?, this] at h3
    cases h3
  | succ fuel ih =>
    intro listed E a w hsz hno hcnt hcl hs
    have hgo : ∀ i, i < n → i ∈ Region.ready .any ops listed → ∃ o, ops[i]? = some o ∧ (∀ e, e ∈ o.after → Region.binds .any e = true → listed.getD e.on false = true) ∧ StepR P T ops o (Sq rs (fun j => (ops[j]?).bind (·.dst)) S0 (fun j => listed.getD j false) ops.size) (rs i) (rns i) ∧
        ∀ E' a' w', Sim X w0 N ((rs i).at o.dst (Sq rs (fun j => (ops[j]?).bind (·.dst)) S0 (fun j => listed.getD j false) ops.size)) E' a' w' → wpAnyIn (rdF X.rd) 0 P .any ops (anyQ X w0 N R) fuel (listed.setIfInBounds i true) a' w' := fun i hin hi => by
      obtain ⟨h1, o, ho, hpre⟩ := mem_ready.1 hi
      have hlt : i < ops.size := (Array.getElem?_eq_some_iff.1 ho).1
      have hlt' : i < listed.size := by omega
      have hif : listed.getD i false = false := by
        rw [Array.getD_eq_getD_getElem?, Array.getElem?_eq_getElem hlt'] at h1 ⊢
        simpa using h1
      have hset : ∀ j, j ≠ i → (listed.setIfInBounds i true).getD j false = listed.getD j false := fun j hj => by
        rw [Array.getD_eq_getD_getElem?, Array.getElem?_setIfInBounds_ne (by omega), ← Array.getD_eq_getD_getElem?]
      have hset' : (listed.setIfInBounds i true).getD i false = true := by
        rw [Array.getD_eq_getD_getElem?, Array.getElem?_setIfInBounds_self_of_lt hlt']; rfl
      have hDm : ∀ j, listed.getD j false = true → j < n := fun j hj => by
        rcases Nat.lt_or_ge j n with h | h
        · exact h
        · rw [hno j h] at hj; cases hj
      obtain ⟨hstep, hnext⟩ := out_of_turn (D := fun j => listed.getD j false) (D' := fun j => (listed.setIfInBounds i true).getD j false) (m := n) hok hbx hst hcl ho hin hDm hif (fun e he hb => hpre e (by simpa using he) hb) hset' hset
      refine ⟨o, ho, hpre, hstep, fun E' a' w' hs' => ih _ E' a' w' (by simpa using hsz) (fun j hj => by rw [hset j (by omega)]; exact hno j hj) ?_ (closed_set hlt' ho hpre hcl) (by rw [← hnext]; exact hs')⟩
      rw [Array.toList_setIfInBounds, count_set _ _ (by
        rw [Array.getElem?_toList, Array.getElem?_eq_getElem hlt']
        rw [Array.getD_eq_getD_getElem?, Array.getElem?_eq_getElem hlt'] at hif
        simpa using hif)]
      omega
    by_cases hall : ∀ j, j < n → listed.getD j false = true
    · have key : ∀ m, m ≤ n → Sq rs (fun j => (ops[j]?).bind (·.dst)) S0 (fun j => listed.getD j false) m = Sq rs (fun j => (ops[j]?).bind (·.dst)) S0 (fun _ => true) m := by
        intro m
        induction m with
        | zero => intro _; rfl
        | succ m ih => intro hm; rw [Sq, Sq, ih (by omega), hall m (by omega)]
      have key2 : ∀ m, n ≤ m → m ≤ ops.size → Sq rs (fun j => (ops[j]?).bind (·.dst)) S0 (fun j => listed.getD j false) m = Sq rs (fun j => (ops[j]?).bind (·.dst)) S0 (fun j => listed.getD j false) n := by
        intro m
        induction m with
        | zero => intro h _; rw [Nat.le_zero.1 h]
        | succ m ih =>
          intro h hm
          by_cases e : n = m + 1
          · rw [e]
          · rw [Sq, hno m (by omega), if_neg (by simp)]; exact ih (by omega) (by omega)
      rw [key2 ops.size (by omega) (Nat.le_refl _), key n (Nat.le_refl _)] at hs
      have e2 : ops.size - (ops.size - n) = n := by omega
      exact tail_anyF hok hfn htail (ops.size - n) (fuel + 1) listed a w (Nat.le_refl _) hsz (fun j hj => hall j (by omega)) (fun j hj => hno j (by omega)) hcnt hcl (by rw [e2]; exact hQ E a w hs)
    · by_cases hfr : ∃ i, i ∈ fl ∧ i ∈ Region.ready .any ops listed
      · obtain ⟨i, hif, hi⟩ := hfr
        obtain ⟨o, ho, hpre, hstep, hgo⟩ := hgo i (hfn i hif) hi
        obtain ⟨h1, h2, h3, h4⟩ := float_free (hfl' i hif) ho hsz hpre hcl
        have hone : OneR P T o.dst o.op (Sq rs (fun j => (ops[j]?).bind (·.dst)) S0 (fun j => listed.getD j false) ops.size) (rs i) (rns i) := by
          rcases hstep with h | h
          · exact h.2
          · rw [h2] at h; cases h.1
        have he3 : eff3 P T o.dst o.op (fun S' => S' = (rs i).at o.dst (Sq rs (fun j => (ops[j]?).bind (·.dst)) S0 (fun j => listed.getD j false) ops.size)) (Sq rs (fun j => (ops[j]?).bind (·.dst)) S0 (fun j => listed.getD j false) ops.size) := by
          rcases hone with ⟨f, args, as1, res, hc, _⟩ | ⟨_, p, q, he, hp, hr⟩
          · obtain ⟨c, hop, _⟩ := callee_is hc
            rw [hop] at h3; cases h3
          · unfold eff3
            rw [he]
            cases q with
            | put v => have hr : rs i = Ap.put v := hr; exact ⟨hp, kput_iff.2 (by rw [hr]; rfl)⟩
            | _ =>
              exfalso
              cases hq : o.op <;> rw [hq] at h3 he <;> first
                | (cases h3; done)
                | (rw [effd] at he; (repeat' split at he) <;> cases he)
        obtain ⟨v, u, g1, g2, g3, g4⟩ := freeE_ok hT h3 he3 hs
        refine wpAnyIn_take (v := u) hX ho hsel h1 (by simpa using hi) (fun c a w hq => by cases hq.1) ⟨.inl ⟨wanted_none h2 a, g3⟩, g4⟩ (hgo E _ w ?_)
        rw [← g2]
        exact hs.env v u g1 o.dst (hd i o ho)
      · refine ⟨fun hr => absurd (fun j hj => ready_all hok hsz hr j (by omega)) hall, fun i hi => ?_⟩
        have hin : i < n := by
          rcases Nat.lt_or_ge i n with h | h
          · exact h
          · exfalso
            obtain ⟨h1, o, ho, hpre⟩ := mem_ready.1 hi
            have hlt : i < ops.size := (Array.getElem?_eq_some_iff.1 ho).1
            refine hall fun j => ?_
            induction j using Nat.strongRecOn with
            | _ j ihj =>
              intro hj
              cases hq : listed.getD j false with
              | true => rfl
              | false =>
                exfalso
                have hjl : j < listed.size := by omega
                cases hfj : fl.contains j with
                | false =>
                  have := tail_beforeF htail (by omega) ho hpre hcl h j (by omega) hfj
                  rw [this] at hq; cases hq
                | true =>
                  refine hfr ⟨j, by simpa using hfj, mem_ready.2 ⟨?_, ops[j]'(by omega), Array.getElem?_eq_getElem (by omega), fun e he hb => ?_⟩⟩
                  · rw [Array.getD_eq_getD_getElem?, Array.getElem?_eq_getElem hjl] at hq ⊢
                    simpa using hq
                  · have h1 := (okD_ok hok).1 j _ (Array.getElem?_eq_getElem (by omega)) e (by simpa using he) hb
                    exact ihj e.on h1 (by omega)
        obtain ⟨o, ho, hpre, hstep, hgo⟩ := hgo i hin hi
        exact StepR_wpOp hT hd ho hstep hs hgo
theorem dw_tailF {R : St → Prop} {id : Nat} {Q : Exit → St → Prop} (n : Nat) (fl bx : List Nat) (hX : X.rd = none) (hT : ∀ t y, T t = some y → TyOk P t y) (hm : P.follows .mixedOrders = true) (hN : okN N ops = true) (hok : okD ops = true) (hn : n < ops.size) (hsel : Region.noSelect ops = true) (hfl : (fl.all fun i => floatOk ops n i) = true) (htail : tailOkF ops n fl = true) (hbx : boxes ops = bx)
    (h : exB P T ops bx (ops.toList.take n) (fun S' => Later (exU P T X w0 N ops (ops.toList.drop n) R) S') S) : DW P X w0 N (.region id ops true) (thenD R Q) S := by
  refine dw_any hm fun E a w hs => ?_
  obtain ⟨rs, rns, h1, h2⟩ := exD_run _ _ (exB_D _ _ h)
  have hlen : (ops.toList.take n).length = n := by rw [List.length_take, Array.length_toList]; omega
  have hds : ∀ m, m ≤ n → Sq rs (fun j => ((ops.toList.take n)[j]?).bind (·.dst)) S (fun _ => true) m = Sq rs (fun j => (ops[j]?).bind (·.dst)) S (fun _ => true) m := fun m hm => sq_ds m fun j hj => by
    rw [List.getElem?_take, if_pos (by omega), Array.getElem?_toList]
  rw [hlen, hds n (Nat.le_refl _)] at h2
  have hbx' : ∀ (i : Nat) o d, ops[i]? = some o → isBox o.op = true → o.dst = some d → d ∈ bx := fun i o d ho hb hd => by
    rw [← hbx]
    refine List.mem_filterMap.2 ⟨o, ?_, by rw [if_pos hb, hd]⟩
    rw [← Array.getElem?_toList] at ho
    exact List.mem_of_getElem? ho
  have hfalse : (fun j => (Array.replicate ops.size false).getD j false) = fun _ => false := by
    funext j
    rw [Array.getD_eq_getD_getElem?, Array.getElem?_replicate]
    split <;> rfl
  have hSq : ∀ n, Sq rs (fun j => (ops[j]?).bind (·.dst)) S (fun _ => false) n = S := by
    intro n
    induction n with
    | zero => rfl
    | succ n ih => rw [Sq, ih]; rfl
  refine draw_tailF (rns := rns) hX hsel hT (okN_ok hN) hok hn hfl htail hbx' (fun i oi hi hoi => ?_) (fun E' a' w' hs2 => ?_) ops.size _ E a _ (by simp) (fun j _ => congrFun hfalse j) (by omega) ?_ (by rw [hfalse, hSq]; exact hs)
  · have := h1 i oi (by rw [List.getElem?_take, if_pos hi, Array.getElem?_toList]; exact hoi)
    rw [hds i (by omega)] at this
    exact this
  · have hk : exU P T X w0 N ops ((ops.toList.drop n).take (ops.size - n)) R (Sq rs (fun j => (ops[j]?).bind (·.dst)) S (fun _ => true) n) := by
      rw [List.take_of_length_le (by simp)]; exact h2
    exact exU_ok hT (okN_ok hN) (fun S' E' _ _ hq hs => ⟨rfl, S', E', hq, hs⟩) (ops.size - n) n hk hs2
  · rw [hfalse]
    intro j o _ h
    cases h
end
end Go.Dl
