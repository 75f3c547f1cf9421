/-
  The logic on data: a row of operations whose order the tape draws.
-/
import Derived.Test.YtajokeimipllcaaDl
import Derived.Orders
import Derived.OrdersIn
set_option linter.unusedSimpArgs false
set_option linter.unusedVariables false
namespace Go.Dl
open Go.Ed Go.RowKit

/-- what an operation leaves -/
inductive Ap where
  | put (v : V)
  | box (e : TypeId) (cs : List C)
  | store (t : Nat) (e : TypeId) (cs : List C)
  | app (ko : Option Nat) (e : TypeId) (k : Nat) (rows : List (List F))
def arrUp (ko : Option Nat) (d : Nat) (x : TypeId × Nat × List (List F)) (f : Nat → Option (TypeId × Nat × List (List F))) : Nat → Option (TypeId × Nat × List (List F)) :=
  fun c => if c = d then some x else if ko = some c then none else f c
def Ap.at : Ap → Option Nat → St → St
  | .put v, d, S => ⟨putS S.slots d v, S.blks, S.arrs⟩
  | .box e cs, some d, S => ⟨upd S.slots d (.loc d 0), upd S.blks d (some (e, cs)), S.arrs⟩
  | .box _ _, none, S => S
  | .store b e cs, _, S => ⟨S.slots, upd S.blks b (some (e, cs)), S.arrs⟩
  | .app ko e k rows, some d, S => ⟨upd (fun t => killV ko (S.slots t)) d (.c (.o d)), fun t => killB ko (S.blks t), arrUp ko d (e, k, rows) S.arrs⟩
  | .app _ _ _ _, none, S => S
/-- an operation that is carried out -/
def OneR (P : Program) (T : Nat → Option Ty) (dst : Option Nat) (op : Op) (S : St) (r : Ap) (rn : List Nat) : Prop :=
  (∃ f args as res, calleeOf S op = some (f, args) ∧ CallC P f as res ∧ vles (args.map (ev S)) as ∧ r = .put res ∧ rn = []) ∨
  (calleeOf S op = none ∧ ∃ p rs, effd P T S op = some (p, rs, rn) ∧ p ∧ match rs with
    | .put v => r = .put v
    | .box e cs => ∃ d, dst = some d ∧ S.blks d = none ∧ r = .box e cs
    | .store b e cs => dst = none ∧ r = .store b e cs
    | .mk _ k rows => r = .put (.c (.f (.l k rows)))
    | .app ko e k rows => ∃ d, dst = some d ∧ (S.arrs d = none ∨ ko = some d) ∧ r = .app ko e k rows
    | .elt _ _ _ _ => False)
section
variable {P : Program} {T : Nat → Option Ty}
theorem one_R {o : Oq} {S : St} {K : St → Prop} (h : one P T o S K) : ∃ r rn, OneR P T o.dst o.op S r rn ∧ K (r.at o.dst S) := by
  unfold one at h
  split at h
  · rename_i f args hc
    obtain ⟨as, res, h1, h2, h3⟩ := h
    exact ⟨.put res, [], .inl ⟨f, args, as, res, hc, h1, h2, rfl, rfl⟩, h3⟩
  · rename_i hc
    unfold eff1 at h
    split at h
    · rename_i p v rn he
      exact ⟨.put v, rn, .inr ⟨hc, p, _, he, h.1, rfl⟩, h.2⟩
    · rename_i p e cs rn he
      split at h
      · rename_i d hd
        exact ⟨.box e cs, rn, .inr ⟨hc, p, _, he, h.1, d, hd, h.2.1, rfl⟩, by rw [hd]; exact h.2.2⟩
      · exact h.elim
    · rename_i p b e cs rn he
      exact ⟨.store b e cs, rn, .inr ⟨hc, p, _, he, h.2.1, h.1, rfl⟩, h.2.2⟩
    · rename_i p e k rows rn he
      exact ⟨_, rn, .inr ⟨hc, p, _, he, h.1, rfl⟩, h.2⟩
    · rename_i p ko e k rows rn he
      split at h
      · rename_i d hd
        exact ⟨.app ko e k rows, rn, .inr ⟨hc, p, _, he, h.1, d, hd, h.2.1, rfl⟩, by rw [hd]; exact h.2.2⟩
      · exact h.elim
    · exact h.elim
    · exact h.elim
theorem R_one {dst : Option Nat} {op : Op} {g : Option (Option Nat × Bool)} {S : St} {r : Ap} {rn : List Nat} {K : St → Prop} (h : OneR P T dst op S r rn) (hK : K (r.at dst S)) : one P T ⟨dst, op, g⟩ S K := by
  unfold one
  rcases h with ⟨f, args, as, res, hc, h1, h2, rfl, rfl⟩ | ⟨hc, p, rs, he, hp, hr⟩
  · simp only [hc]; exact ⟨as, res, h1, h2, hK⟩
  · simp only [hc, eff1, he]
    cases rs with
    | put v => subst hr; exact ⟨hp, hK⟩
    | box e cs => obtain ⟨d, rfl, hf, rfl⟩ := hr; exact ⟨hp, hf, hK⟩
    | store b e cs => obtain ⟨rfl, rfl⟩ := hr; exact ⟨rfl, hp, hK⟩
    | mk e k rows => subst hr; exact ⟨hp, hK⟩
    | app ko e k rows => obtain ⟨d, rfl, hf, rfl⟩ := hr; exact ⟨hp, hf, hK⟩
    | elt _ _ _ _ => exact hr.elim
/-- is the operation wanted? -/
def gdV (S : St) : Option (Option Nat × Bool) → Option Bool
  | none => some true
  | some (none, _) => some false
  | some (some t, want) => match S.slots t with
    | .c (.f (.s (.bool b))) => some (b == want)
    | .no => some false
    | _ => none
theorem gd_V {S : St} {g : Option (Option Nat × Bool)} {A B : Prop} (h : gd S g A B) : (gdV S g = some true ∧ A) ∨ (gdV S g = some false ∧ B) := by
  unfold gd at h
  unfold gdV
  split at h
  · exact .inl ⟨rfl, h⟩
  · exact .inr ⟨rfl, h⟩
  · simp only
    split at h
    · rename_i want _ b hb
      rw [hb]
      by_cases hw : b = want
      · exact .inl ⟨by simp [hw], h.1 hw⟩
      · exact .inr ⟨by simp [hw], h.2 hw⟩
    · rename_i hb
      rw [hb]
      exact .inr ⟨rfl, h⟩
    · exact h.elim
theorem V_gd {S : St} {g : Option (Option Nat × Bool)} {A B : Prop} (h : (gdV S g = some true ∧ A) ∨ (gdV S g = some false ∧ B)) : gd S g A B := by
  unfold gdV at h
  unfold gd
  split at h
  · rcases h with h | h
    · exact h.2
    · cases h.1
  · rcases h with h | h
    · cases h.1
    · exact h.2
  · simp only at h ⊢
    split at h
    · rename_i want _ b hb
      rw [hb]
      refine ⟨fun e => ?_, fun e => ?_⟩
      · rcases h with h | h
        · exact h.2
        · simp [e] at h
      · rcases h with h | h
        · simp [e] at h
        · exact h.2
    · rename_i hb
      rw [hb]
      rcases h with h | h
      · cases h.1
      · exact h.2
    · rcases h with h | h <;> cases h.1
/-- a step of the row -/
def StepR (P : Program) (T : Nat → Option Ty) (ops : Array Oper) (o : Oper) (S : St) (r : Ap) (rn : List Nat) : Prop :=
  (gdV S (gOf ops o.guard) = some true ∧ OneR P T o.dst o.op S r rn) ∨ (gdV S (gOf ops o.guard) = some false ∧ r = .put .no ∧ rn = [])
def isSt : Op → Bool
  | .store _ _ _ => true
  | _ => false
def rnOf (P : Program) (T : Nat → Option Ty) (S : St) (op : Op) : List Nat := match op with
  | .store _ _ _ => []
  | _ => match effd P T S op with
    | some (_, _, rn) => rn
    | none => []
theorem rnOf_some {S : St} {op : Op} {p : Prop} {r : Res} {rn : List Nat} (he : effd P T S op = some (p, r, rn)) (hs : isSt op = false) : rnOf P T S op = rn := by
  unfold rnOf
  split
  · cases hs
  · rw [he]
theorem rnOf_none {S : St} {op : Op} (he : effd P T S op = none) : rnOf P T S op = [] := by
  unfold rnOf
  split
  · rfl
  · rw [he]
/-- blocks of the row's own are not looked at -/
def chk : List Nat → List Nat → Prop
  | [], _ => True
  | bx, rn => ∀ b ∈ rn, b ∉ bx
theorem chk_mem {bx rn : List Nat} (h : chk bx rn) : ∀ b ∈ rn, b ∉ bx := by
  cases bx with
  | nil => intro b _ hb; cases hb
  | cons x xs => exact h
def exD (P : Program) (T : Nat → Option Ty) (ops : Array Oper) (bx : List Nat) : List Oper → St → (St → Prop) → Prop
  | [], S, K => K S
  | o :: os, S, K => gd S (gOf ops o.guard) (chk bx (rnOf P T S o.op) ∧ one P T ⟨o.dst, o.op, none⟩ S fun S' => exD P T ops bx os S' K) (exD P T ops bx os ⟨putS S.slots o.dst .no, S.blks, S.arrs⟩ K)
/-- the state behind the first n of the row, of those in D -/
def Sq (rs : Nat → Ap) (ds : Nat → Option Nat) (S0 : St) (D : Nat → Bool) : Nat → St
  | 0 => S0
  | n + 1 => if D n then (rs n).at (ds n) (Sq rs ds S0 D n) else Sq rs ds S0 D n
theorem Sq_shift (r0 : Ap) (d0 : Option Nat) (rs : Nat → Ap) (ds : Nat → Option Nat) (S0 : St) (n : Nat) :
    Sq (fun i => match i with | 0 => r0 | i + 1 => rs i) (fun i => match i with | 0 => d0 | i + 1 => ds i) S0 (fun _ => true) (n + 1) = Sq rs ds (r0.at d0 S0) (fun _ => true) n := by
  induction n with
  | zero => rfl
  | succ n ih =>
    rw [Sq, ih]
    rfl
theorem one_rn {dst : Option Nat} {op : Op} {S : St} {r : Ap} {rn : List Nat} (h : OneR P T dst op S r rn) {bx : List Nat} (hc : chk bx (rnOf P T S op)) : isSt op = false → ∀ b ∈ rn, b ∉ bx := by
  intro hst
  rcases h with ⟨f, args, as, res, hc, h1, h2, rfl, rfl⟩ | ⟨hcc, p, rs, he, hp, hr⟩
  · intro b hb; cases hb
  · rw [rnOf_some he hst] at hc
    exact chk_mem hc
theorem exD_run {ops : Array Oper} {bx : List Nat} {K : St → Prop} : ∀ (l : List Oper) (S : St), exD P T ops bx l S K → ∃ (rs : Nat → Ap) (rns : Nat → List Nat),
    (∀ (i : Nat) o, l[i]? = some o → StepR P T ops o (Sq rs (fun j => (l[j]?).bind (·.dst)) S (fun _ => true) i) (rs i) (rns i) ∧ (isSt o.op = false → ∀ b ∈ rns i, b ∉ bx)) ∧ K (Sq rs (fun j => (l[j]?).bind (·.dst)) S (fun _ => true) l.length)
  | [], S, h => ⟨fun _ => .put .no, fun _ => [], fun i o hi => by simp at hi, h⟩
  | o :: l, S, h => by
    have key : ∀ (r0 : Ap) (rn0 : List Nat), StepR P T ops o S r0 rn0 → (isSt o.op = false → ∀ b ∈ rn0, b ∉ bx) → exD P T ops bx l (r0.at o.dst S) K → ∃ (rs : Nat → Ap) (rns : Nat → List Nat),
        (∀ (i : Nat) o', (o :: l)[i]? = some o' → StepR P T ops o' (Sq rs (fun j => ((o :: l)[j]?).bind (·.dst)) S (fun _ => true) i) (rs i) (rns i) ∧ (isSt o'.op = false → ∀ b ∈ rns i, b ∉ bx)) ∧ K (Sq rs (fun j => ((o :: l)[j]?).bind (·.dst)) S (fun _ => true) (o :: l).length) := fun r0 rn0 h1 h2 h3 => by
      obtain ⟨rs, rns, h4, h5⟩ := exD_run l _ h3
      have hds : (fun j => ((o :: l)[j]?).bind (·.dst)) = (fun i => match i with | 0 => o.dst | i + 1 => (l[i]?).bind (·.dst)) := by
        funext j
        cases j <;> rfl
      refine ⟨fun i => match i with | 0 => r0 | i + 1 => rs i, fun i => match i with | 0 => rn0 | i + 1 => rns i, fun i o' hi => ?_, ?_⟩
      · match i with
        | 0 => simp at hi; subst hi; exact ⟨h1, h2⟩
        | i + 1 =>
          rw [hds, Sq_shift]
          exact h4 i o' (by simpa using hi)
      · rw [hds, List.length_cons, Sq_shift]
        exact h5
    rcases gd_V h with ⟨hg, hc, h1⟩ | ⟨hg, h1⟩
    · obtain ⟨r, rn, h2, h3⟩ := one_R h1
      exact key r rn (.inl ⟨hg, h2⟩) (one_rn h2 hc) h3
    · exact key (.put .no) [] (.inr ⟨hg, rfl, rfl⟩) (fun _ b hb => by cases hb) h1
end
section
variable {P : Program} {T : Nat → Option Ty}
def isW : Op → Bool
  | .store _ _ _ => true
  | .call c => match c.callee with
    | .builtin .append => true
    | _ => false
  | _ => false
def isBox : Op → Bool
  | .box _ _ => true
  | .alloc _ => true
  | _ => false
theorem nW_nSt {op : Op} (h : isW op = false) : isSt op = false := by
  cases op <;> first | rfl | cases h
/-- looks at no memory, leaves a value -/
def isPu : Op → Bool
  | .move _ | .assign _ | .pick .. | .binOp .. | .unOp .. | .convert .. | .extract .. | .index .. | .fieldAddr .. | .indexAddr .. | .slice .. | .nilCheck .. | .field .. | .makeFunc .. | .build .. => true
  | .call c => match c.callee with
    | .value (.func _) => true
    | _ => false
  | _ => false
theorem partsD_agree {S S' : St} : ∀ {ps : List (Nat × Operand)}, (∀ x ∈ ps.map (·.2), ev S' x = ev S x) → partsD S' ps = partsD S ps
  | [], _ => rfl
  | (i, x) :: r, h => by
    rw [partsD, partsD, h x (by simp), partsD_agree (ps := r) fun y hy => h y (by rw [List.map_cons]; exact List.mem_cons_of_mem _ hy)]
theorem wsD_agree {S S' : St} : ∀ {ps : List Operand}, (∀ x ∈ ps, ev S' x = ev S x) → wsD S' ps = wsD S ps
  | [], _ => rfl
  | x :: r, h => by
    rw [wsD, wsD, h x (by simp), wsD_agree (ps := r) fun y hy => h y (List.mem_cons_of_mem _ hy)]
set_option maxHeartbeats 1000000 in
theorem effd_agree {S S' : St} {op : Op} {p : Prop} {rs : Res} {rn : List Nat} (he : effd P T S op = some (p, rs, rn)) (hop : ∀ x ∈ op.operands, ev S' x = ev S x) (hb : ∀ b ∈ rn, S'.blks b = S.blks b) (ha : ∀ a, S'.arrs a = S.arrs a) :
    effd P T S' op = some (p, rs, rn) := by
  have harr : S'.arrs = S.arrs := funext ha
  cases op with
  | move x => simp only [Op.operands] at hop; rw [effd, hop x (by simp)]; exact he
  | assign x => simp only [Op.operands] at hop; rw [effd, hop x (by simp)]; exact he
  | pick c a b => simp only [Op.operands] at hop; rw [effd, hop c (by simp), hop a (by simp), hop b (by simp)]; exact he
  | load t x =>
    simp only [Op.operands] at hop
    rw [effd] at he ⊢
    rw [hop x (by simp)]
    split at he
    · rename_i y b off hy hx
      split at he
      · rename_i e cs hbl
        cases he
        have := hb b (by simp)
        rw [this, hbl]
      · cases he
    · rename_i y xs hy hx
      exact he
    · rw [harr]; exact he
    · cases he
  | fieldAddr t x f => simp only [Op.operands] at hop; rw [effd, hop x (by simp)]; exact he
  | binOp op t x y yt => simp only [Op.operands] at hop; rw [effd, hop x (by simp), hop y (by simp)]; exact he
  | unOp op t x =>
    simp only [Op.operands] at hop
    cases op with
    | not => rw [effd, hop x (by simp)]; exact he
    | neg => rw [effd, hop x (by simp)]; exact he
    | _ => simp [effd] at he
  | convert s d x => simp only [Op.operands] at hop; rw [effd, hop x (by simp)]; exact he
  | extract x i => simp only [Op.operands] at hop; rw [effd, hop x (by simp)]; exact he
  | index t x i => simp only [Op.operands] at hop; rw [effd, hop x (by simp), hop i (by simp)]; exact he
  | indexAddr t x i => simp only [Op.operands] at hop; rw [effd, hop x (by simp), hop i (by simp), harr]; exact he
  | nilCheck x => simp only [Op.operands] at hop; rw [effd, hop x (by simp)]; exact he
  | field t x f => simp only [Op.operands] at hop; rw [effd, hop x (by simp)]; exact he
  | makeFunc fn fi ca =>
    simp only [Op.operands] at hop
    cases fn with
    | func f => rw [effd, wsD_agree (ps := fi.toList) fun y hy => hop y (by simp at hy; simp [hy]), wsD_agree (ps := ca.toList) fun y hy => hop y (by simp at hy; simp [hy])]; exact he
    | _ => simp [effd] at he
  | slice t x lo hi mx =>
    simp only [Op.operands] at hop
    match lo, hi, mx with
    | some lo, none, none => rw [effd, hop x (by simp), hop lo (by simp)]; exact he
    | none, some hi, none => rw [effd, hop x (by simp), hop hi (by simp)]; exact he
    | none, none, _ => simp [effd] at he
    | some lo, some hi, none => rw [effd, hop x (by simp), hop lo (by simp), hop hi (by simp)]; exact he
    | some _, some _, some _ => simp [effd] at he
    | some _, none, some _ => simp [effd] at he
    | none, some _, some _ => simp [effd] at he
  | call c =>
    obtain ⟨callee, args, argTypes⟩ := c
    have hargs : ∀ x ∈ args.toList, ev S' x = ev S x := fun x hx => hop x (by simp only [Op.operands, Call.operands]; exact Array.mem_append.2 (.inr (by simpa using hx)))
    rw [effd] at he ⊢
    simp only at he ⊢
    split at he
    · rename_i x t e2 e3
      rw [hargs x (by rw [e2]; simp), harr]; exact he
    · rename_i s x t t' e2 e3
      rw [hargs x (by rw [e2]; simp), hargs s (by rw [e2]; simp), harr]; exact he
    · rename_i x y t t' e2 e3
      rw [hargs x (by rw [e2]; simp), hargs y (by rw [e2]; simp)]; exact he
    · rename_i x y t t' e2 e3
      rw [hargs x (by rw [e2]; simp), hargs y (by rw [e2]; simp)]; exact he
    · cases he
  | build t ps =>
    have h1 : partsD S' ps.toList = partsD S ps.toList := partsD_agree fun x hx => hop x (by simp only [Op.operands]; simpa using hx)
    rw [effd, h1]; exact he
  | buildSlice t n ps =>
    rw [effd] at he ⊢
    split at he
    · rename_i y x hy hps
      have h1 : ev S' x = ev S x := hop x (by simp only [Op.operands, hps]; simp)
      rw [h1]; exact he
    · cases he
  | box e x => simp only [Op.operands] at hop; rw [effd, hop x (by simp)]; exact he
  | alloc e => exact he
  | store t x v =>
    simp only [Op.operands] at hop
    rw [effd] at he ⊢
    rw [hop x (by simp), hop v (by simp)]
    split at he
    · rename_i y b off vs hy hx hv
      split at he
      · rename_i e cs hbl
        cases he
        have := hb b (by simp)
        rw [this, hbl]
      · cases he
    · rw [harr]; exact he
    · cases he
  | lookup t x i q =>
    simp only [Op.operands] at hop
    cases q with
    | false => rw [effd, hop x (by simp), hop i (by simp), harr]; exact he
    | true => simp [effd] at he
  | _ => simp [effd] at he
/-- what is not a writer leaves a value or a block -/
theorem not_W {dst : Option Nat} {op : Op} {S : St} {r : Ap} {rn : List Nat} (h : OneR P T dst op S r rn) (hw : isW op = false) : (∃ v, r = .put v) ∨ (∃ e cs d, dst = some d ∧ r = .box e cs ∧ isBox op = true) := by
  rcases h with ⟨f, args, as, res, hc, h1, h2, rfl, rfl⟩ | ⟨hcc, p, rs, he, hp, hr⟩
  · exact .inl ⟨_, rfl⟩
  · cases rs with
    | put v => exact .inl ⟨v, hr⟩
    | mk e k rows => exact .inl ⟨_, hr⟩
    | box e cs =>
      obtain ⟨d, hd, _, rfl⟩ := hr
      refine .inr ⟨e, cs, d, hd, rfl, ?_⟩
      unfold effd at he
      split at he
      all_goals (first | rfl | (repeat' (first | (cases he; done) | split at he)))
    | store b e cs =>
      exfalso
      unfold effd at he
      split at he
      all_goals (first | (simp [isW] at hw; done) | (repeat' (first | (cases he; done) | split at he)))
    | app ko e k rows =>
      exfalso
      unfold effd at he
      split at he
      case h_15 c =>
        obtain ⟨callee, args, argTypes⟩ := c
        simp only at he
        split at he
        · repeat' (first | (cases he; done) | split at he)
        · simp [isW] at hw
        all_goals (repeat' (first | (cases he; done) | split at he))
      all_goals (repeat' (first | (cases he; done) | split at he))
    | elt _ _ _ _ => exact hr.elim
theorem pu_not_box {op : Op} (h : isPu op = true) : isBox op = false := by
  cases op <;> first | rfl | (simp [isPu] at h; done)
theorem box_is {S : St} {op : Op} {p : Prop} {e : TypeId} {cs : List C} {rn : List Nat} (he : effd P T S op = some (p, .box e cs, rn)) : isBox op = true := by
  unfold effd at he
  split at he
  all_goals (first | rfl | (repeat' (first | (cases he; done) | split at he)))
theorem pu_put {dst : Option Nat} {op : Op} {S : St} {r : Ap} {rn : List Nat} (h : OneR P T dst op S r rn) (hp : isPu op = true) : (∃ v, r = .put v) ∧ rn = [] := by
  rcases h with ⟨f, args, as, res, hc, h1, h2, rfl, rfl⟩ | ⟨hcc, p, rs, he, hpp, hr⟩
  · exact ⟨⟨_, rfl⟩, rfl⟩
  · have key : (∃ v, rs = .put v) ∧ rn = [] := by
      unfold effd at he
      split at he
      case h_4 => simp [isPu] at hp
      case h_15 c =>
        obtain ⟨callee, args, argTypes⟩ := c
        simp only [isPu] at hp
        simp only at he
        split at he
        · cases hp
        · cases hp
        all_goals first | cases hp | skip
        all_goals (repeat' (first | (cases he; done) | split at he))
      all_goals (first | (simp [isPu] at hp; done) | (repeat' (first | (cases he; done) | split at he)))
      all_goals (first | (cases he; exact ⟨⟨_, rfl⟩, rfl⟩) | (cases he))
    obtain ⟨⟨v, rfl⟩, h2⟩ := key
    exact ⟨⟨v, hr⟩, h2⟩
theorem st_store {dst : Option Nat} {op : Op} {S : St} {r : Ap} {rn : List Nat} (h : OneR P T dst op S r rn) (hp : isSt op = true) : ∃ b e cs, r = .store b e cs := by
  cases op <;> first | (cases hp; done) | skip
  rename_i t x v
  rcases h with ⟨f, args, as, res, hc, h1, h2, rfl, rfl⟩ | ⟨hcc, p, rs, he, hpp, hr⟩
  · cases hc
  · rw [effd] at he
    split at he
    · split at he
      · cases he
        exact ⟨_, _, _, hr.2⟩
      · cases he
    · split at he <;> cases he
      exact hr.elim
    · cases he
end
section
variable {P : Program} {T : Nat → Option Ty} {ops : Array Oper}
theorem ev_agree {o : Oper} {S S' : St} (hs : ∀ t ∈ o.looksAt ops, S'.slots t = S.slots t) : ∀ x ∈ o.op.operands, ev S' x = ev S x := fun x hx => by
  cases x with
  | tmp t => exact hs t (List.mem_append.2 (.inl (List.mem_filterMap.2 ⟨.tmp t, by simpa using hx, rfl⟩)))
  | _ => rfl
theorem callee_agree {op : Op} {S S' : St} (hop : ∀ x ∈ op.operands, ev S' x = ev S x) : calleeOf S' op = calleeOf S op := by
  cases op with
  | call c =>
    obtain ⟨callee, args, argTypes⟩ := c
    unfold calleeOf
    simp only
    split
    · rfl
    · rename_i t
      have h := hop (.tmp t) (by simp [Op.operands, Call.operands])
      rw [show S'.slots t = S.slots t from h]
    · rfl
  | _ => rfl
theorem stepR_agree {o : Oper} {S S' : St} {r : Ap} {rn : List Nat} (h : StepR P T ops o S r rn) (hs : ∀ t ∈ o.looksAt ops, S'.slots t = S.slots t) (hb : ∀ b ∈ rn, S'.blks b = S.blks b)
    (ha : ∀ a, S'.arrs a = S.arrs a) (hd : isBox o.op = true → ∀ d, o.dst = some d → S.blks d = none → S'.blks d = none) : StepR P T ops o S' r rn := by
  have hev := ev_agree hs
  have hg : gdV S' (gOf ops o.guard) = gdV S (gOf ops o.guard) := by
    cases hgu : o.guard with
    | none => rfl
    | some g =>
      obtain ⟨j, want⟩ := g
      simp only [gOf]
      cases hj : (ops[j]?).bind (·.dst) with
      | none => rfl
      | some t =>
        have := hs t (List.mem_append.2 (.inr (by rw [hgu]; simp [hj])))
        simp only [gdV, this]
  rcases h with ⟨h1, h2⟩ | ⟨h1, h2⟩
  · refine .inl ⟨by rw [hg]; exact h1, ?_⟩
    rcases h2 with ⟨f, args, as, res, hc, h3, h4, h5, h6⟩ | ⟨hc, p, rs, he, hp, hr⟩
    · refine .inl ⟨f, args, as, res, by rw [callee_agree hev]; exact hc, h3, ?_, h5, h6⟩
      have : args.map (ev S') = args.map (ev S) := by
        refine List.map_congr_left fun x hx => hev x ?_
        obtain ⟨c, hop, rfl, _⟩ := callee_is hc
        rw [hop]
        simp only [Op.operands, Call.operands]
        exact Array.mem_append.2 (.inr (by simpa using hx))
      rw [this]; exact h4
    · refine .inr ⟨by rw [callee_agree hev]; exact hc, p, rs, effd_agree he hev hb ha, hp, ?_⟩
      cases rs with
      | put v => exact hr
      | box e cs =>
        obtain ⟨d, h3, h4, h5⟩ := hr
        exact ⟨d, h3, hd (box_is he) d h3 h4, h5⟩
      | store b e cs => exact hr
      | mk e k rows => exact hr
      | app ko e k rows => obtain ⟨d, h3, h4, h5⟩ := hr; exact ⟨d, h3, by rw [ha]; exact h4, h5⟩
      | elt _ _ _ _ => exact hr.elim
  · exact .inr ⟨by rw [hg]; exact h1, h2⟩

/-! ### Projections -/
def fS : Ap → Option Nat → Nat → V → V
  | .put v, some d, x, s => if x = d then v else s
  | .box _ _, some d, x, s => if x = d then .loc d 0 else s
  | .app ko _ _ _, some d, x, s => if x = d then .c (.o d) else killV ko s
  | _, _, _, s => s
def fB : Ap → Option Nat → Nat → Option (TypeId × List C) → Option (TypeId × List C)
  | .box e cs, some d, x, s => if x = d then some (e, cs) else s
  | .store b e cs, _, x, s => if x = b then some (e, cs) else s
  | .app ko _ _ _, some _, _, s => killB ko s
  | _, _, _, s => s
def fA : Ap → Option Nat → Nat → Option (TypeId × Nat × List (List F)) → Option (TypeId × Nat × List (List F))
  | .app ko e k rows, some d, c, s => if c = d then some (e, k, rows) else if ko = some c then none else s
  | _, _, _, s => s
theorem at_S (r : Ap) (d : Option Nat) (S : St) (x : Nat) : (r.at d S).slots x = fS r d x (S.slots x) := by
  cases r <;> cases d <;> simp [Ap.at, fS, putS, upd]
theorem at_B (r : Ap) (d : Option Nat) (S : St) (x : Nat) : (r.at d S).blks x = fB r d x (S.blks x) := by
  cases r <;> cases d <;> simp [Ap.at, fB, upd]
theorem at_A (r : Ap) (d : Option Nat) (S : St) (x : Nat) : (r.at d S).arrs x = fA r d x (S.arrs x) := by
  cases r <;> cases d <;> simp [Ap.at, fA, arrUp]
theorem sq_agree {α : Type} {π : St → α} {f : Nat → α → α} {rs : Nat → Ap} {ds : Nat → Option Nat} {S0 : St} (hπ : ∀ i S, π ((rs i).at (ds i) S) = f i (π S)) {D D' : Nat → Bool} : ∀ (n : Nat), (∀ j, j < n → D j ≠ D' j → ∀ s, f j s = s) → π (Sq rs ds S0 D n) = π (Sq rs ds S0 D' n)
  | 0, _ => rfl
  | n + 1, h => by
    have ih := sq_agree (S0 := S0) hπ (D := D) (D' := D') n fun j hj => h j (by omega)
    rw [Sq, Sq]
    by_cases hd : D n = D' n
    · rw [hd]
      split
      · rw [hπ, hπ, ih]
      · exact ih
    · have hf := h n (by omega) hd
      cases h1 : D n <;> cases h2 : D' n
      · rw [h1, h2] at hd; exact absurd rfl hd
      · simp only [if_true, Bool.false_eq_true, if_false]; rw [hπ, hf, ih]
      · simp only [if_true, Bool.false_eq_true, if_false]; rw [hπ, hf, ih]
      · rw [h1, h2] at hd; exact absurd rfl hd
theorem sq_insert {α : Type} {π : St → α} {f : Nat → α → α} {rs : Nat → Ap} {ds : Nat → Option Nat} {S0 : St} (hπ : ∀ i S, π ((rs i).at (ds i) S) = f i (π S)) {D D' : Nat → Bool} {i : Nat} (hi : D i = false) (hi' : D' i = true) (hD : ∀ j, j ≠ i → D' j = D j) :
    ∀ (n : Nat), i < n → (∀ j, i < j → j < n → D j = true → ∀ s, f j (f i s) = f i (f j s)) → π (Sq rs ds S0 D' n) = f i (π (Sq rs ds S0 D n))
  | n + 1, hn, h => by
    rw [Sq, Sq]
    by_cases e : n = i
    · subst e
      rw [hi, hi']
      simp only [if_true, Bool.false_eq_true, if_false]
      rw [hπ, sq_agree hπ n fun j hj hne => absurd (hD j (by omega)) hne]
    · have ih := sq_insert (S0 := S0) hπ hi hi' hD n (by omega) fun j h1 h2 => h j h1 (by omega)
      rw [hD n e]
      cases h1 : D n
      · simp only [Bool.false_eq_true, if_false]; exact ih
      · simp only [if_true]
        rw [hπ, hπ, ih, h n (by omega) (by omega) h1]
theorem sq_full {rs : Nat → Ap} {ds : Nat → Option Nat} {S0 : St} {i : Nat} : ∀ (n : Nat), i ≤ n → Sq rs ds S0 (fun j => decide (j < i)) n = Sq rs ds S0 (fun _ => true) i
  | 0, h => by
    obtain rfl : i = 0 := by omega
    rfl
  | n + 1, h => by
    by_cases e : i = n + 1
    · subst e
      have : ∀ (m : Nat), m ≤ n + 1 → Sq rs ds S0 (fun j => decide (j < n + 1)) m = Sq rs ds S0 (fun _ => true) m := by
        intro m
        induction m with
        | zero => intro _; rfl
        | succ m ih =>
          intro hm
          rw [Sq, Sq, ih (by omega)]
          simp [show m < n + 1 by omega]
      exact this _ (Nat.le_refl _)
    · rw [Sq, sq_full n (by omega)]
      simp [show ¬ n < i by omega]
/-! ### The static look -/
def mk1 (acc : List Nat) : List Edge → Nat → Nat
  | [], s => s
  | e :: es, s => mk1 acc es (if Region.binds .any e then s ||| 2 ^ e.on ||| acc.getD e.on 0 else s)
def msk : List Oper → List Nat → List Nat
  | [], acc => acc
  | o :: os, acc => msk os (acc ++ [mk1 acc o.after.toList 0])
def Closed (ops : Array Oper) (D : Nat → Bool) : Prop := ∀ (j : Nat) o, ops[j]? = some o → D j = true → ∀ e ∈ o.after.toList, Region.binds .any e = true → D e.on = true
theorem mk1_bit (acc : List Nat) : ∀ (es : List Edge) (s i : Nat), (mk1 acc es s).testBit i = true → s.testBit i = true ∨ ∃ e ∈ es, Region.binds .any e = true ∧ (e.on = i ∨ (acc.getD e.on 0).testBit i = true)
  | [], s, i, h => .inl h
  | e :: es, s, i, h => by
    rw [mk1] at h
    rcases mk1_bit acc es _ i h with h1 | ⟨e', he, h1⟩
    · by_cases hb : Region.binds .any e = true
      · rw [if_pos hb] at h1
        simp only [Nat.testBit_or, Bool.or_eq_true] at h1
        rcases h1 with (h1 | h1) | h1
        · exact .inl h1
        · rw [Nat.testBit_two_pow] at h1
          exact .inr ⟨e, List.mem_cons_self .., hb, .inl (by simpa using h1)⟩
        · exact .inr ⟨e, List.mem_cons_self .., hb, .inr h1⟩
      · rw [if_neg hb] at h1; exact .inl h1
    · exact .inr ⟨e', List.mem_cons_of_mem _ he, h1⟩
theorem msk_ok : ∀ (l : List Oper) (acc : List Nat) (pre : List Oper), ops.toList = pre ++ l → acc.length = pre.length → (∀ (j m : Nat), acc[j]? = some m → ∀ i, m.testBit i = true → ∀ D, Closed ops D → D j = true → D i = true) →
    ∀ (j m : Nat), (msk l acc)[j]? = some m → ∀ i, m.testBit i = true → ∀ D, Closed ops D → D j = true → D i = true
  | [], acc, pre, _, _, h => h
  | o :: l, acc, pre, hl, hlen, h => by
    rw [msk]
    refine msk_ok l _ (pre ++ [o]) (by rw [hl]; simp) (by simp [hlen]) fun j m hj i hi D hD hDj => ?_
    rcases Nat.lt_or_ge j acc.length with h1 | h1
    · rw [List.getElem?_append_left h1] at hj
      exact h j m hj i hi D hD hDj
    · rw [List.getElem?_append_right h1] at hj
      have hj0 : j = acc.length := by
        rcases Nat.eq_zero_or_pos (j - acc.length) with h2 | h2
        · omega
        · rw [List.getElem?_eq_none (by simp; omega)] at hj; cases hj
      subst hj0
      simp at hj
      subst hj
      have ho : ops[acc.length]? = some o := by
        rw [← Array.getElem?_toList, hl, hlen, List.getElem?_append_right (Nat.le_refl _)]
        simp
      rcases mk1_bit acc _ _ i hi with h2 | ⟨e, he, hb, h2⟩
      · simp at h2
      · have hDe := hD _ o ho hDj e he hb
        rcases h2 with rfl | h2
        · exact hDe
        · rw [List.getD_eq_getElem?_getD] at h2
          cases hq : acc[e.on]? with
          | none => rw [hq] at h2; simp at h2
          | some m => rw [hq] at h2; exact h _ m hq i h2 D hD hDe
def isLd : Op → Bool
  | .load _ _ => true
  | _ => false
def pairC (z : Bool) (x y : Op) : Bool := (!isW x && !isW y) || (isSt x && isPu y) || (isPu x && isSt y) || (z && ((isSt x && isLd y) || (isLd x && isSt y)))
def pairOk (z : Bool) (ops : Array Oper) (x y : Oper) : Bool := x.apart ops y && pairC z x.op y.op
def rowOk (z : Bool) (ops : Array Oper) (m : List Nat) (j : Nat) (oj : Oper) : Bool :=
  oj.after.toList.all (fun e => !Region.binds .any e || decide (e.on < j)) &&
  (List.range j).all fun i => ((m.getD j 0).testBit i) || (match ops[i]? with | some oi => pairOk z ops oi oj | none => true)
def okDz (z : Bool) (ops : Array Oper) : Bool := let m := msk ops.toList []
  (List.range ops.size).all fun j => match ops[j]? with | some oj => rowOk z ops m j oj | none => true
abbrev okD (ops : Array Oper) : Bool := okDz false ops
/-- the one does not wait for the other -/
def frB (ops : Array Oper) (i j : Nat) : Bool := !((msk ops.toList []).getD j 0).testBit i
def boxes (ops : Array Oper) : List Nat := ops.toList.filterMap fun o => if isBox o.op then o.dst else none
theorem okD_ok {z : Bool} (h : okDz z ops = true) : (∀ (j : Nat) oj, ops[j]? = some oj → ∀ e ∈ oj.after.toList, Region.binds .any e = true → e.on < j) ∧
    ∀ (i j : Nat) oi oj, i < j → ops[i]? = some oi → ops[j]? = some oj → (∀ D, Closed ops D → D j = true → D i = true) ∨ (frB ops i j = true ∧ oi.apart ops oj = true ∧ pairC z oi.op oj.op = true) := by
  have key : ∀ (j : Nat) oj, ops[j]? = some oj → rowOk z ops (msk ops.toList []) j oj = true := fun j oj hj => by
    have hlt : j < ops.size := (Array.getElem?_eq_some_iff.1 hj).1
    have := List.all_eq_true.1 h j (List.mem_range.2 hlt)
    rw [hj] at this
    exact this
  refine ⟨fun j oj hj e he hb => ?_, fun i j oi oj hij hi hj => ?_⟩
  · have := key j oj hj
    rw [rowOk, Bool.and_eq_true] at this
    have := List.all_eq_true.1 this.1 e he
    rw [hb] at this
    simpa using this
  · have := key j oj hj
    rw [rowOk, Bool.and_eq_true] at this
    have := List.all_eq_true.1 this.2 i (List.mem_range.2 hij)
    rw [hi] at this
    cases hbit : ((msk ops.toList []).getD j 0).testBit i with
    | true =>
      left
      have h1 := hbit
      rw [List.getD_eq_getElem?_getD] at h1
      cases hq : (msk ops.toList [])[j]? with
      | none => rw [hq] at h1; simp at h1
      | some m => rw [hq] at h1; exact msk_ok ops.toList [] [] rfl rfl (fun j m h => by simp at h) j m hq i h1
    | false =>
      right
      rw [hbit, Bool.false_or] at this
      simp only [pairOk, Bool.and_eq_true] at this
      exact ⟨by unfold frB; rw [hbit]; rfl, this⟩
theorem pairC_iff {z : Bool} {x y : Op} (h : pairC z x y = true) : (isW x = false ∧ isW y = false) ∨ (isSt x = true ∧ isPu y = true) ∨ (isPu x = true ∧ isSt y = true) ∨ (z = true ∧ isSt x = true ∧ isLd y = true) ∨ (z = true ∧ isLd x = true ∧ isSt y = true) := by
  simp only [pairC, Bool.or_eq_true, Bool.and_eq_true, Bool.not_eq_true'] at h
  rcases h with ((h | h) | h) | ⟨h, h2 | h2⟩
  · exact .inl h
  · exact .inr (.inl h)
  · exact .inr (.inr (.inl h))
  · exact .inr (.inr (.inr (.inl ⟨h, h2⟩)))
  · exact .inr (.inr (.inr (.inr ⟨h, h2⟩)))
theorem ld_put {P : Program} {T : Nat → Option Ty} {dst : Option Nat} {op : Op} {S : St} {r : Ap} {rn : List Nat} (h : OneR P T dst op S r rn) (hp : isLd op = true) : ∃ v, r = .put v := by
  cases op <;> first | (cases hp; done) | skip
  rcases not_W h rfl with h | ⟨_, _, _, _, _, h⟩
  · exact h
  · cases h
end
section
variable {P : Program} {T : Nat → Option Ty} {ops : Array Oper}
theorem count_set : ∀ (l : List Bool) (i : Nat), l[i]? = some false → (l.set i true).countP id = l.countP id + 1
  | [], i, h => by simp at h
  | b :: l, 0, h => by simp at h; subst h; simp [List.countP_cons]
  | b :: l, i + 1, h => by
    rw [List.set_cons_succ, List.countP_cons, List.countP_cons, count_set l i (by simpa using h)]; omega
theorem count_all : ∀ (l : List Bool), l.countP id ≥ l.length → ∀ i, i < l.length → l[i]? = some true
  | [], _, i, hi => by simp at hi
  | b :: l, h, i, hi => by
    rw [List.countP_cons, List.length_cons] at h
    have h1 : l.countP id ≤ l.length := List.countP_le_length
    cases b
    · simp at h; omega
    · cases i with
      | zero => rfl
      | succ i => exact count_all l (by simp at h; omega) i (by simpa using hi)
theorem ld_nW {op : Op} (h : isLd op = true) : isW op = false := by cases op <;> first | rfl | cases h
theorem ld_nB {op : Op} (h : isLd op = true) : isBox op = false := by cases op <;> first | rfl | cases h
set_option maxHeartbeats 2000000 in
/-- one step of the row, out of its turn -/
theorem out_of_turn {z : Bool} (hok : okDz z ops = true) {bx : List Nat} (hbx : ∀ (i : Nat) o d, ops[i]? = some o → isBox o.op = true → o.dst = some d → d ∈ bx) {rs : Nat → Ap} {rns : Nat → List Nat} {S0 : St} {m : Nat}
    (hst : ∀ (i : Nat) o, i < m → ops[i]? = some o → StepR P T ops o (Sq rs (fun j => (ops[j]?).bind (·.dst)) S0 (fun _ => true) i) (rs i) (rns i) ∧ (isSt o.op = false → ∀ b ∈ rns i, b ∉ bx))
    {D D' : Nat → Bool} (hcl : Closed ops D) {i : Nat} {o : Oper} (ho : ops[i]? = some o) (him : i < m) (hDm : ∀ j, D j = true → j < m) (hi : D i = false) (hpre : ∀ e ∈ o.after.toList, Region.binds .any e = true → D e.on = true) (hi' : D' i = true) (hD : ∀ j, j ≠ i → D' j = D j)
    (hdj : z = true → ∀ (i j : Nat) oi oj, i < m → j < m → i < j → frB ops i j = true → ops[i]? = some oi → ops[j]? = some oj → (isSt oi.op = true → isLd oj.op = true → ∀ b e cs, rs i = .store b e cs → b ∉ rns j) ∧ (isLd oi.op = true → isSt oj.op = true → ∀ b e cs, rs j = .store b e cs → b ∉ rns i) := by intro h; cases h) :
    StepR P T ops o (Sq rs (fun j => (ops[j]?).bind (·.dst)) S0 D ops.size) (rs i) (rns i) ∧ (rs i).at o.dst (Sq rs (fun j => (ops[j]?).bind (·.dst)) S0 D ops.size) = Sq rs (fun j => (ops[j]?).bind (·.dst)) S0 D' ops.size := by
  obtain ⟨hlow, hpair⟩ := okD_ok hok
  have hmm : ∀ j, ((j < i ∧ D j = false) ∨ (i < j ∧ D j = true)) → j < m := fun j h => h.elim (fun h => by omega) fun h => hDm j h.2
  have hlt : i < ops.size := (Array.getElem?_eq_some_iff.1 ho).1
  -- whatever differs from the row's own turn is apart
  have hcl' : Closed ops D' := fun j oj hj hDj e he hb => by
    by_cases hji : j = i
    · subst hji
      rw [ho] at hj; cases hj
      have h1 := hpre e he hb
      by_cases h2 : e.on = j
      · rw [h2]; exact hi'
      · rw [hD _ h2]; exact h1
    · rw [hD j hji] at hDj
      have h1 := hcl j oj hj hDj e he hb
      by_cases h2 : e.on = i
      · rw [h2]; exact hi'
      · rw [hD _ h2]; exact h1
  have hap : ∀ (j : Nat) oj, ops[j]? = some oj → ((j < i ∧ D j = false) ∨ (i < j ∧ D j = true)) → (o.apart ops oj = true ∨ oj.apart ops o = true) ∧ ((isW o.op = false ∧ isW oj.op = false) ∨ (isSt o.op = true ∧ isPu oj.op = true) ∨ (isPu o.op = true ∧ isSt oj.op = true) ∨ (isSt o.op = true ∧ isLd oj.op = true) ∨ (isLd o.op = true ∧ isSt oj.op = true ∧ ∀ b e cs, rs j = .store b e cs → b ∉ rns i)) := fun j oj hj h => by
    rcases h with ⟨h1, h2⟩ | ⟨h1, h2⟩
    · rcases hpair j i oj o h1 hj ho with h3 | h3
      · have := h3 D' hcl' hi'
        rw [hD j (by omega), h2] at this
        cases this
      · refine ⟨.inr h3.2.1, ?_⟩
        rcases pairC_iff h3.2.2 with h | h | h | ⟨hz, h, h'⟩ | ⟨hz, h, h'⟩
        · exact .inl ⟨h.2, h.1⟩
        · exact .inr (.inr (.inl ⟨h.2, h.1⟩))
        · exact .inr (.inl ⟨h.2, h.1⟩)
        · exact .inr (.inr (.inr (.inr ⟨h', h, (hdj hz j i oj o (by omega) him h1 h3.1 hj ho).1 h h'⟩)))
        · exact .inr (.inr (.inr (.inl ⟨h', h⟩)))
    · rcases hpair i j o oj h1 ho hj with h3 | h3
      · have := h3 D hcl h2
        rw [hi] at this
        cases this
      · refine ⟨.inl h3.2.1, ?_⟩
        rcases pairC_iff h3.2.2 with h | h | h | ⟨hz, h, h'⟩ | ⟨hz, h, h'⟩
        · exact .inl h
        · exact .inr (.inl h)
        · exact .inr (.inr (.inl h))
        · exact .inr (.inr (.inr (.inl ⟨h, h'⟩)))
        · exact .inr (.inr (.inr (.inr ⟨h, h', (hdj hz i j o oj him (hDm j h2) h1 h3.1 ho hj).2 h h'⟩)))
  have hapart : ∀ (j : Nat) oj, ops[j]? = some oj → ((j < i ∧ D j = false) ∨ (i < j ∧ D j = true)) → (∀ d, oj.dst = some d → d ∉ o.looksAt ops) ∧ (∀ d, oj.dst = some d → o.dst ≠ some d) := fun j oj hj h => by
    rcases (hap j oj hj h).1 with h3 | h3
    · obtain ⟨q1, q2, q3⟩ := Oper.apart_spec h3
      exact ⟨q3, fun d hd hd2 => q2 d hd2 hd⟩
    · obtain ⟨q1, q2, q3⟩ := Oper.apart_spec h3
      exact ⟨q1, fun d hd => q2 d hd⟩
  have hshape : ∀ (j : Nat) oj, j < m → ops[j]? = some oj → isW oj.op = false → (∃ v, rs j = .put v) ∨ (∃ e cs d, oj.dst = some d ∧ rs j = .box e cs ∧ d ∈ bx) := fun j oj hjm hj hw => by
    rcases (hst j oj hjm hj).1 with ⟨_, h2⟩ | ⟨_, h2, _⟩
    · rcases not_W h2 hw with h3 | ⟨e, cs, d, h3, h4, h5⟩
      · exact .inl h3
      · exact .inr ⟨e, cs, d, h3, h4, hbx j oj d hj h5 h3⟩
    · exact .inl ⟨_, h2⟩
  have hput : ∀ (j : Nat) oj, j < m → ops[j]? = some oj → isPu oj.op = true → (∃ v, rs j = .put v) ∧ rns j = [] := fun j oj hjm hj hw => by
    rcases (hst j oj hjm hj).1 with ⟨_, h2⟩ | ⟨_, h2, h3⟩
    · exact pu_put h2 hw
    · exact ⟨⟨_, h2⟩, h3⟩
  have hstore : ∀ (j : Nat) oj, j < m → ops[j]? = some oj → isSt oj.op = true → (∃ b e cs, rs j = .store b e cs) ∨ ∃ v, rs j = .put v := fun j oj hjm hj hw => by
    rcases (hst j oj hjm hj).1 with ⟨_, h2⟩ | ⟨_, h2, h3⟩
    · exact .inl (st_store h2 hw)
    · exact .inr ⟨_, h2⟩
  have hany : ∀ (j : Nat) oj, j < m → ops[j]? = some oj → (isW oj.op = false ∨ isPu oj.op = true ∨ isSt oj.op = true) → (∃ v, rs j = .put v) ∨ (∃ e cs d, oj.dst = some d ∧ rs j = .box e cs ∧ d ∈ bx) ∨ (∃ b e cs, rs j = .store b e cs) := fun j oj hjm hj h => by
    rcases h with h | h | h
    · rcases hshape j oj hjm hj h with h | h
      · exact .inl h
      · exact .inr (.inl h)
    · exact .inl (hput j oj hjm hj h).1
    · rcases hstore j oj hjm hj h with h | h
      · exact .inr (.inr h)
      · exact .inl h
  have hturn := sq_full (rs := rs) (ds := fun j => (ops[j]?).bind (·.dst)) (S0 := S0) (i := i) ops.size (Nat.le_of_lt hlt)
  have hdiff : ∀ j, j < ops.size → D j ≠ decide (j < i) → ∃ oj, ops[j]? = some oj ∧ ((j < i ∧ D j = false) ∨ (i < j ∧ D j = true)) := fun j hj hne => by
    refine ⟨ops[j], Array.getElem?_eq_getElem hj, ?_⟩
    rcases Nat.lt_trichotomy j i with h | h | h
    · left
      refine ⟨h, ?_⟩
      cases hq : D j
      · rfl
      · rw [hq] at hne; simp [h] at hne
    · subst h
      rw [hi] at hne; simp at hne
    · right
      refine ⟨h, ?_⟩
      cases hq : D j
      · rw [hq] at hne; exact absurd (by simp; omega) hne
      · rfl
  have hkind : ∀ (j : Nat) oj, ops[j]? = some oj → ((j < i ∧ D j = false) ∨ (i < j ∧ D j = true)) → (isW oj.op = false ∨ isPu oj.op = true ∨ isSt oj.op = true) := fun j oj hoj hc => by
    rcases (hap j oj hoj hc).2 with h | h | h | h | h
    · exact .inl h.2
    · exact .inr (.inl h.2)
    · exact .inr (.inr h.2)
    · exact .inl (ld_nW h.2)
    · exact .inr (.inr h.2.1)
  have hload : ∀ (j : Nat) oj, j < m → ops[j]? = some oj → isLd oj.op = true → ∃ v, rs j = .put v := fun j oj hjm hj hw => by
    rcases (hst j oj hjm hj).1 with ⟨_, h2⟩ | ⟨_, h2, _⟩
    · exact ld_put h2 hw
    · exact ⟨_, h2⟩
  have hS : ∀ x, (∀ j oj d, ops[j]? = some oj → ((j < i ∧ D j = false) ∨ (i < j ∧ D j = true)) → oj.dst = some d → x ≠ d) → (Sq rs (fun j => (ops[j]?).bind (·.dst)) S0 D ops.size).slots x = (Sq rs (fun j => (ops[j]?).bind (·.dst)) S0 (fun _ => true) i).slots x := fun x hx => by
    rw [← hturn]
    refine sq_agree (π := fun S => S.slots x) (f := fun j => fS (rs j) ((ops[j]?).bind (·.dst)) x) (fun j S => at_S _ _ _ _) _ fun j hj hne s => ?_
    obtain ⟨oj, hoj, hc⟩ := hdiff j hj hne
    simp only [hoj, Option.bind_some]
    rcases hany j oj (hmm j hc) hoj (hkind j oj hoj hc) with ⟨v, h1⟩ | ⟨e, cs, d, h1, h2, _⟩ | ⟨b, e, cs, h1⟩
    · rw [h1]
      cases hd : oj.dst with
      | none => rfl
      | some d => simp [fS, hx j oj d hoj hc hd]
    · rw [h2, h1]; simp [fS, hx j oj d hoj hc h1]
    · rw [h1]; cases oj.dst <;> rfl
  have hB : isPu o.op = false → ∀ x, (∀ j oj d, ops[j]? = some oj → ((j < i ∧ D j = false) ∨ (i < j ∧ D j = true)) → oj.dst = some d → isSt o.op = false → d ∈ bx → x ≠ d) → (isLd o.op = true → x ∈ rns i) → (Sq rs (fun j => (ops[j]?).bind (·.dst)) S0 D ops.size).blks x = (Sq rs (fun j => (ops[j]?).bind (·.dst)) S0 (fun _ => true) i).blks x := fun hnp x hx hx2 => by
    rw [← hturn]
    refine sq_agree (π := fun S => S.blks x) (f := fun j => fB (rs j) ((ops[j]?).bind (·.dst)) x) (fun j S => at_B _ _ _ _) _ fun j hj hne s => ?_
    obtain ⟨oj, hoj, hc⟩ := hdiff j hj hne
    simp only [hoj, Option.bind_some]
    rcases (hap j oj hoj hc).2 with hq | hq | hq | hq | hq
    · rcases hshape j oj (hmm j hc) hoj hq.2 with ⟨v, h1⟩ | ⟨e, cs, d, h1, h2, h3⟩
      · rw [h1]; rfl
      · rw [h2, h1]; simp [fB, hx j oj d hoj hc h1 (nW_nSt hq.1) h3]
    · obtain ⟨v, h1⟩ := (hput j oj (hmm j hc) hoj hq.2).1
      rw [h1]; rfl
    · rw [hnp] at hq; cases hq.1
    · obtain ⟨v, h1⟩ := hload j oj (hmm j hc) hoj hq.2
      rw [h1]; rfl
    · rcases hstore j oj (hmm j hc) hoj hq.2.1 with ⟨b, e, cs, h1⟩ | ⟨v, h1⟩
      · have hne : x ≠ b := fun e1 => hq.2.2 b e cs h1 (e1 ▸ hx2 hq.1)
        rw [h1]; simp [fB, hne]
      · rw [h1]; rfl
  have hA : ∀ x, (Sq rs (fun j => (ops[j]?).bind (·.dst)) S0 D ops.size).arrs x = (Sq rs (fun j => (ops[j]?).bind (·.dst)) S0 (fun _ => true) i).arrs x := fun x => by
    rw [← hturn]
    refine sq_agree (π := fun S => S.arrs x) (f := fun j => fA (rs j) ((ops[j]?).bind (·.dst)) x) (fun j S => at_A _ _ _ _) _ fun j hj hne s => ?_
    obtain ⟨oj, hoj, hc⟩ := hdiff j hj hne
    rcases hany j oj (hmm j hc) hoj (hkind j oj hoj hc) with ⟨v, h1⟩ | ⟨e, cs, d, h1, h2, _⟩ | ⟨b, e, cs, h1⟩
    · rw [h1]; rfl
    · rw [h2]; rfl
    · rw [h1]; rfl
  refine ⟨stepR_agree (hst i o him ho).1 (fun x hx => hS x fun j oj d hj hc hd e => (hapart j oj hj hc).1 d hd (e ▸ hx)) (fun b hb => by
    cases hpu : isPu o.op with
    | true => rw [(hput i o him ho hpu).2] at hb; cases hb
    | false => exact hB hpu b (fun j oj d hj hc hd hns hdb e => (hst i o him ho).2 hns b hb (e ▸ hdb)) fun _ => hb) hA (fun hnb d hd hn => by
      cases hpu : isPu o.op with
      | true => rw [pu_not_box hpu] at hnb; cases hnb
      | false => rw [hB hpu d (fun j oj d' hj hc hd' _ _ e => (hapart j oj hj hc).2 d' hd' (e ▸ hd)) fun hl => by rw [ld_nB hl] at hnb; cases hnb]; exact hn), ?_⟩
  -- the state behind
  have hlater : ∀ j, i < j → j < ops.size → D j = true → ∃ oj, ops[j]? = some oj ∧ (∀ d, oj.dst = some d → o.dst ≠ some d) ∧ (((∃ v, rs j = .put v) ∨ (∃ e cs d, oj.dst = some d ∧ rs j = .box e cs ∧ d ∈ bx)) ∧ ((∃ v, rs i = .put v) ∨ (∃ e cs d, o.dst = some d ∧ rs i = .box e cs ∧ d ∈ bx)) ∨ ((∃ v, rs j = .put v) ∧ ∃ b e cs, rs i = .store b e cs) ∨ ((∃ v, rs i = .put v) ∧ ∃ b e cs, rs j = .store b e cs)) := fun j h1 h2 h3 => by
    have hoj : ops[j]? = some ops[j] := Array.getElem?_eq_getElem h2
    refine ⟨_, hoj, (hapart j _ hoj (.inr ⟨h1, h3⟩)).2, ?_⟩
    rcases (hap j _ hoj (.inr ⟨h1, h3⟩)).2 with hq | hq | hq | hq | hq
    · exact .inl ⟨hshape j _ (hDm j h3) hoj hq.2, hshape i o him ho hq.1⟩
    · rcases hstore i o him ho hq.1 with h4 | h4
      · exact .inr (.inl ⟨(hput j _ (hDm j h3) hoj hq.2).1, h4⟩)
      · exact .inl ⟨.inl (hput j _ (hDm j h3) hoj hq.2).1, .inl h4⟩
    · rcases hstore j _ (hDm j h3) hoj hq.2 with h4 | h4
      · exact .inr (.inr ⟨(hput i o him ho hq.1).1, h4⟩)
      · exact .inl ⟨.inl h4, .inl (hput i o him ho hq.1).1⟩
    · rcases hstore i o him ho hq.1 with h4 | h4
      · exact .inr (.inl ⟨hload j _ (hDm j h3) hoj hq.2, h4⟩)
      · exact .inl ⟨.inl (hload j _ (hDm j h3) hoj hq.2), .inl h4⟩
    · rcases hstore j _ (hDm j h3) hoj hq.2.1 with h4 | h4
      · exact .inr (.inr ⟨hload i o him ho hq.1, h4⟩)
      · exact .inl ⟨.inl h4, .inl (hload i o him ho hq.1)⟩
  have hds : ((fun j => (ops[j]?).bind (·.dst)) : Nat → Option Nat) i = o.dst := by simp [ho]
  have e1 : ∀ x, ((rs i).at o.dst (Sq rs (fun j => (ops[j]?).bind (·.dst)) S0 D ops.size)).slots x = (Sq rs (fun j => (ops[j]?).bind (·.dst)) S0 D' ops.size).slots x := fun x => by
    rw [at_S]
    refine ((sq_insert (π := fun S => S.slots x) (f := fun j => fS (rs j) ((ops[j]?).bind (·.dst)) x) (fun j S => at_S _ _ _ _) hi hi' hD ops.size hlt fun j h1 h2 h3 s => ?_).trans (by simp only [ho, Option.bind_some])).symm
    obtain ⟨oj, hoj, hne, hsh⟩ := hlater j h1 h2 h3
    simp only [hoj, ho, Option.bind_some]
    rcases hsh with ⟨hq, hp⟩ | ⟨⟨v, q⟩, b, e, cs, q2⟩ | ⟨⟨v, q⟩, b, e, cs, q2⟩
    rotate_left
    · rw [q, q2]; cases oj.dst <;> cases o.dst <;> rfl
    · rw [q, q2]; cases oj.dst <;> cases o.dst <;> rfl
    rcases hq with ⟨v, q1⟩ | ⟨e, cs, d, q1, q2, _⟩ <;> rcases hp with ⟨v', p1⟩ | ⟨e', cs', d', p1, p2, _⟩
    · rw [q1, p1]
      cases hd : oj.dst with
      | none => cases o.dst <;> rfl
      | some d =>
        cases hd' : o.dst with
        | none => rfl
        | some d' =>
          have := hne d hd
          rw [hd'] at this
          simp only [fS]
          by_cases hx1 : x = d <;> by_cases hx2 : x = d' <;> simp_all
    · rw [q1, p2, p1]
      cases hd : oj.dst with
      | none => rfl
      | some d =>
        have := hne d hd
        rw [p1] at this
        simp only [fS]
        by_cases hx1 : x = d <;> by_cases hx2 : x = d' <;> simp_all
    · rw [q2, p1, q1]
      cases hd' : o.dst with
      | none => rfl
      | some d' =>
        have := hne d q1
        rw [hd'] at this
        simp only [fS]
        by_cases hx1 : x = d <;> by_cases hx2 : x = d' <;> simp_all
    · rw [q2, p2, q1, p1]
      have := hne d q1
      rw [p1] at this
      simp only [fS]
      by_cases hx1 : x = d <;> by_cases hx2 : x = d' <;> simp_all
  have e2 : ∀ x, ((rs i).at o.dst (Sq rs (fun j => (ops[j]?).bind (·.dst)) S0 D ops.size)).blks x = (Sq rs (fun j => (ops[j]?).bind (·.dst)) S0 D' ops.size).blks x := fun x => by
    rw [at_B]
    refine ((sq_insert (π := fun S => S.blks x) (f := fun j => fB (rs j) ((ops[j]?).bind (·.dst)) x) (fun j S => at_B _ _ _ _) hi hi' hD ops.size hlt fun j h1 h2 h3 s => ?_).trans (by simp only [ho, Option.bind_some])).symm
    obtain ⟨oj, hoj, hne, hsh⟩ := hlater j h1 h2 h3
    simp only [hoj, ho, Option.bind_some]
    rcases hsh with ⟨hq, hp⟩ | ⟨⟨v, q⟩, b, e, cs, q2⟩ | ⟨⟨v, q⟩, b, e, cs, q2⟩
    rotate_left
    · rw [q, q2]; cases oj.dst <;> cases o.dst <;> rfl
    · rw [q, q2]; cases oj.dst <;> cases o.dst <;> rfl
    rcases hq with ⟨v, q1⟩ | ⟨e, cs, d, q1, q2, _⟩ <;> rcases hp with ⟨v', p1⟩ | ⟨e', cs', d', p1, p2, _⟩
    · rw [q1, p1]; rfl
    · rw [q1]; rfl
    · rw [p1]; rfl
    · rw [q2, p2, q1, p1]
      have := hne d q1
      rw [p1] at this
      simp only [fB]
      by_cases hx1 : x = d <;> by_cases hx2 : x = d' <;> simp_all
  have e3 : ∀ x, ((rs i).at o.dst (Sq rs (fun j => (ops[j]?).bind (·.dst)) S0 D ops.size)).arrs x = (Sq rs (fun j => (ops[j]?).bind (·.dst)) S0 D' ops.size).arrs x := fun x => by
    rw [at_A]
    refine ((sq_insert (π := fun S => S.arrs x) (f := fun j => fA (rs j) ((ops[j]?).bind (·.dst)) x) (fun j S => at_A _ _ _ _) hi hi' hD ops.size hlt fun j h1 h2 h3 s => ?_).trans (by simp only [ho, Option.bind_some])).symm
    obtain ⟨oj, hoj, hne, hsh⟩ := hlater j h1 h2 h3
    rcases hsh with ⟨hq, hp⟩ | ⟨⟨v, q⟩, b, e, cs, q2⟩ | ⟨⟨v, q⟩, b, e, cs, q2⟩
    · rcases hq with ⟨v, q1⟩ | ⟨e, cs, d, q1, q2, _⟩
      · rw [q1]; rfl
      · rw [q2]; rfl
    · rw [q]; rfl
    · rw [q2]; rfl
  generalize (rs i).at o.dst (Sq rs (fun j => (ops[j]?).bind (·.dst)) S0 D ops.size) = A at e1 e2 e3
  generalize Sq rs (fun j => (ops[j]?).bind (·.dst)) S0 D' ops.size = B at e1 e2 e3
  obtain ⟨a1, a2, a3⟩ := A
  obtain ⟨b1, b2, b3⟩ := B
  simp only at e1 e2 e3
  rw [funext e1, funext e2, funext e3]
end
section
variable {P : Program} {T : Nat → Option Ty} {ops : Array Oper} {X : Fr} {w0 : World} {N : Nat}
theorem StepR_wpOp (hT : ∀ t y, T t = some y → TyOk P t y) (hd : ∀ (i : Nat) (o : Oper), ops[i]? = some o → ∀ t, o.dst = some t → t < N) {i : Nat} {o : Oper} (ho : ops[i]? = some o) {S : St} {r : Ap} {rn : List Nat} (h : StepR P T ops o S r rn) {E : Env} {a : Act} {w : World} (hs : Sim X w0 N S E a w)
    {K : Act → World → Prop} {Q : Exit → Act → World → Prop} (hK : ∀ E' a' w', Sim X w0 N (r.at o.dst S) E' a' w' → K a' w') : wpOpIn (rdF X.rd) 0 P ops Q i K a w := by
  unfold wpOpIn
  rw [ho]
  simp only
  have hg : gOf ops o.guard = o.guard.map fun g => ((ops[g.1]?).bind (·.dst), g.2) := by cases o.guard <;> rfl
  have hgd : gd S (o.guard.map fun g => ((ops[g.1]?).bind (·.dst), g.2)) (OneR P T o.dst o.op S r rn) (r = .put .no ∧ rn = []) := by
    rw [← hg]
    exact V_gd h
  rcases yield_ok hs hd hgd with ⟨hw, h1⟩ | ⟨hw, h1, _⟩
  · simp only [hw, if_true]
    exact op_in (one_nd (R_one (K := fun S' => S' = r.at o.dst S) (g := none) h1 rfl)) (one_ok (K := fun S' => S' = r.at o.dst S) hT (R_one (g := none) h1 rfl) hs (hd i o ho) fun S' E' a' w' e h2 => by subst e; exact hK _ _ _ h2)
  · simp only [hw, Bool.false_eq_true, if_false]
    subst h1
    exact ⟨fun _ _ => trivial, hK _ _ _ (hs.env .no undef .no o.dst (hd i o ho))⟩
theorem draw_ok (hT : ∀ t y, T t = some y → TyOk P t y) (hd : ∀ (i : Nat) (o : Oper), ops[i]? = some o → ∀ t, o.dst = some t → t < N) {z : Bool} (hok : okDz z ops = true) {bx : List Nat} (hbx : ∀ (i : Nat) o d, ops[i]? = some o → isBox o.op = true → o.dst = some d → d ∈ bx) {rs : Nat → Ap} {rns : Nat → List Nat} {S0 : St}
    (hst : ∀ (i : Nat) o, ops[i]? = some o → StepR P T ops o (Sq rs (fun j => (ops[j]?).bind (·.dst)) S0 (fun _ => true) i) (rs i) (rns i) ∧ (isSt o.op = false → ∀ b ∈ rns i, b ∉ bx)) {Q : Exit → Act → World → Prop}
    (hQ : ∀ E a w, Sim X w0 N (Sq rs (fun j => (ops[j]?).bind (·.dst)) S0 (fun _ => true) ops.size) E a w → Q .normal a w)
    (hdj : z = true → ∀ (i j : Nat) oi oj, i < ops.size → j < ops.size → i < j → frB ops i j = true → ops[i]? = some oi → ops[j]? = some oj → (isSt oi.op = true → isLd oj.op = true → ∀ b e cs, rs i = .store b e cs → b ∉ rns j) ∧ (isLd oi.op = true → isSt oj.op = true → ∀ b e cs, rs j = .store b e cs → b ∉ rns i) := by intro h; cases h) :
    ∀ (fuel : Nat) (listed : Array Bool) (E : Env) (a : Act) (w : World), listed.size = ops.size → listed.toList.countP id + fuel ≥ ops.size → Closed ops (fun j => listed.getD j false) →
      Sim X w0 N (Sq rs (fun j => (ops[j]?).bind (·.dst)) S0 (fun j => listed.getD j false) ops.size) E a w → wpAnyIn (rdF X.rd) 0 P .any ops Q fuel listed a w := by
  have hend : ∀ (listed : Array Bool) (E : Env) (a : Act) (w : World), listed.size = ops.size → (∀ j, j < ops.size → listed.getD j false = true) → Sim X w0 N (Sq rs (fun j => (ops[j]?).bind (·.dst)) S0 (fun j => listed.getD j false) ops.size) E a w → Q .normal a w := fun listed E a w hsz hall hs => by
    refine hQ E a w ?_
    have key : ∀ n, n ≤ ops.size → Sq rs (fun j => (ops[j]?).bind (·.dst)) S0 (fun j => listed.getD j false) n = Sq rs (fun j => (ops[j]?).bind (·.dst)) S0 (fun _ => true) n := by
      intro n
      induction n with
      | zero => intro _; rfl
      | succ n ih => intro hn; rw [Sq, Sq, ih (by omega), hall n (by omega)]
    rw [← key _ (Nat.le_refl _)]; exact hs
  have hready : ∀ (listed : Array Bool), listed.size = ops.size → Region.ready .any ops listed = [] → ∀ j, j < ops.size → listed.getD j false = true := fun listed hsz hr j => by
    induction j using Nat.strongRecOn with
    | _ j ih =>
      intro hj
      cases hq : listed.getD j false with
      | true => rfl
      | false =>
        exfalso
        have hlt : j < listed.size := by omega
        have : j ∈ Region.ready .any ops listed := mem_ready.2 ⟨by
          rw [Array.getD_eq_getD_getElem?, Array.getElem?_eq_getElem hlt] at hq ⊢
          simpa using hq, ops[j], Array.getElem?_eq_getElem hj, fun e he hb => by
            have h1 := (okD_ok hok).1 j _ (Array.getElem?_eq_getElem hj) e (by simpa using he) hb
            exact ih e.on h1 (by omega)⟩
        rw [hr] at this
        cases this
  intro fuel
  induction fuel with
  | zero =>
    intro listed E a w hsz hcnt hcl hs
    have hall : ∀ j, j < ops.size → listed.getD j false = true := fun j hj => by
      have := count_all listed.toList (by rw [Array.length_toList, hsz]; omega) j (by simp [hsz]; exact hj)
      rw [Array.getElem?_toList] at this
      rw [Array.getD_eq_getD_getElem?, this]; rfl
    refine ⟨?_, hend listed E a w hsz hall hs⟩
    rw [List.eq_nil_iff_forall_not_mem]
    intro j hj
    obtain ⟨h1, o, ho, _⟩ := mem_ready.1 hj
    have hlt : j < ops.size := (Array.getElem?_eq_some_iff.1 ho).1
    have h2 := hall j hlt
    rw [Array.getD_eq_getD_getElem?, Array.getElem?_eq_getElem (by omega)] at h1 h2
    simp at h1 h2
    rw [h1] at h2
    cases h2
  | succ fuel ih =>
    intro listed E a w hsz hcnt hcl hs
    refine ⟨fun hr => hend listed E a w hsz (hready listed hsz hr) hs, fun i hi => ?_⟩
    obtain ⟨h1, o, ho, hpre⟩ := mem_ready.1 hi
    have hlt : i < ops.size := (Array.getElem?_eq_some_iff.1 ho).1
    have hlt' : i < listed.size := by omega
    have hif : listed.getD i false = false := by
      rw [Array.getD_eq_getD_getElem?, Array.getElem?_eq_getElem hlt'] at h1 ⊢
      simpa using h1
    have hset : ∀ j, j ≠ i → (listed.setIfInBounds i true).getD j false = listed.getD j false := fun j hj => by
      rw [Array.getD_eq_getD_getElem?, Array.getElem?_setIfInBounds_ne (by omega), ← Array.getD_eq_getD_getElem?]
    have hset' : (listed.setIfInBounds i true).getD i false = true := by
      rw [Array.getD_eq_getD_getElem?, Array.getElem?_setIfInBounds_self_of_lt hlt']; rfl
    have hlst : ∀ j, listed.getD j false = true → j < ops.size := fun j hj => by
      rcases Nat.lt_or_ge j ops.size with h | h
      · exact h
      · rw [Array.getD_eq_getD_getElem?, Array.getElem?_eq_none (by omega)] at hj; cases hj
    obtain ⟨hstep, hnext⟩ := out_of_turn (D := fun j => listed.getD j false) (D' := fun j => (listed.setIfInBounds i true).getD j false) (m := ops.size) hok hbx (fun i o _ h => hst i o h) hcl ho hlt hlst hif (fun e he hb => hpre e (by simpa using he) hb) hset' hset hdj
    refine StepR_wpOp hT hd ho hstep hs fun E' a' w' hs' => ih _ E' a' w' (by simpa using hsz) ?_ ?_ (by rw [← hnext]; exact hs')
    · rw [Array.toList_setIfInBounds, count_set _ _ (by
        rw [Array.getElem?_toList, Array.getElem?_eq_getElem hlt']
        rw [Array.getD_eq_getD_getElem?, Array.getElem?_eq_getElem hlt'] at hif
        simpa using hif)]
      omega
    · intro j oj hj hDj e he hb
      by_cases hji : j = i
      · subst hji
        rw [ho] at hj; cases hj
        by_cases h2 : e.on = j
        · rw [h2]; exact hset'
        · show (listed.setIfInBounds j true).getD e.on false = true
          rw [hset _ h2]; exact hpre e (by simpa using he) hb
      · have hDj : (listed.setIfInBounds i true).getD j false = true := hDj
        rw [hset j hji] at hDj
        have h3 := hcl j oj hj hDj e he hb
        by_cases h2 : e.on = i
        · rw [h2]; exact hset'
        · show (listed.setIfInBounds i true).getD e.on false = true
          rw [hset _ h2]; exact h3
/-- a row whose order the tape draws -/
theorem dw_draw_k {id : Nat} {S : St} {R : St → Prop} {Q : Exit → St → Prop} (bx : List Nat) (hT : ∀ t y, T t = some y → TyOk P t y) (hm : P.follows .mixedOrders = true) (hN : okN N ops = true) (hok : okD ops = true) (hbx : boxes ops = bx) (h : exD P T ops bx ops.toList S R) :
    DW P X w0 N (.region id ops true) (thenD R Q) S := fun E a w hs => by
  obtain ⟨rs, rns, h1, h2⟩ := exD_run _ _ h
  have hds : (fun j => (ops.toList[j]?).bind (·.dst)) = (fun j => (ops[j]?).bind (·.dst) : Nat → Option Nat) := by funext j; simp
  rw [hds, Array.length_toList] at h2
  refine wpIn_region_any hm ?_
  have hbx' : ∀ (i : Nat) o d, ops[i]? = some o → isBox o.op = true → o.dst = some d → d ∈ bx := fun i o d ho hb hd => by
    rw [← hbx]
    refine List.mem_filterMap.2 ⟨o, ?_, by rw [if_pos hb, hd]⟩
    rw [← Array.getElem?_toList] at ho
    exact List.mem_of_getElem? ho
  have hfalse : (fun j => (Array.replicate ops.size false).getD j false) = fun _ => false := by
    funext j
    rw [Array.getD_eq_getD_getElem?, Array.getElem?_replicate]
    split <;> rfl
  have hSq : ∀ n, Sq rs (fun j => (ops[j]?).bind (·.dst)) S (fun _ => false) n = S := by
    intro n
    induction n with
    | zero => rfl
    | succ n ih => rw [Sq, ih]; rfl
  have hs' : Sim X w0 N S E a { w with drawn := w.drawn + 1 } := hs.grow (w' := { w with drawn := w.drawn + 1 }) ⟨rfl, rfl, rfl, Nat.le_refl _, fun _ _ => rfl⟩
  refine draw_ok (Q := fun e a' w' => ∃ S' E', thenD R Q e S' ∧ Sim X w0 N S' E' a' w') hT (okN_ok hN) hok hbx' (fun i o ho => by
    have := h1 i o (by simpa using ho)
    rw [hds] at this
    exact this) (fun E' a' w' hs2 => ⟨_, E', h2, hs2⟩) (fun h => by cases h) ops.size _ E a _ (by simp) (by omega) ?_ (by rw [hfalse, hSq]; exact hs')
  rw [hfalse]
  intro j o _ h
  cases h
end
/-! ### The walk's own form: it stands still at a call, and at a test that is not decided -/
def Later (K : St → Prop) (S : St) : Prop := K S
def gd2 : Option Bool → (St → Prop) → (St → Prop) → St → Prop
  | some true, KA, _, S => KA S
  | some false, _, KB, S => KB S
  | none, _, _, _ => False
/-- a truth value that is put is named, so that the walk can part by it -/
def kput (K : V → Prop) : V → Prop
  | .c (.f (.s (.bool c))) => ∀ b, c = b → K (.c (.f (.s (.bool b))))
  | v => K v
theorem kput_iff {K : V → Prop} {v : V} : kput K v ↔ K v := by
  unfold kput
  split
  · exact ⟨fun h => h _ rfl, fun h b e => e ▸ h⟩
  · exact Iff.rfl
def eff2 (P : Program) (T : Nat → Option Ty) (dst : Option Nat) (op : Op) (K : St → Prop) (S : St) : Prop := match effd P T S op with
  | some (p, .put v, _) => p ∧ kput (fun v => K ⟨putS S.slots dst v, S.blks, S.arrs⟩) v
  | some (p, .box e cs, _) => match dst with
    | some d => p ∧ S.blks d = none ∧ K ⟨upd S.slots d (.loc d 0), upd S.blks d (some (e, cs)), S.arrs⟩
    | none => False
  | some (p, .store b e cs, _) => dst = none ∧ p ∧ K ⟨S.slots, upd S.blks b (some (e, cs)), S.arrs⟩
  | some (p, .mk _ k rows, _) => p ∧ K ⟨putS S.slots dst (.c (.f (.l k rows))), S.blks, S.arrs⟩
  | some (p, .app ko e k rows, _) => match dst with
    | some d => p ∧ (S.arrs d = none ∨ ko = some d) ∧ K ⟨upd (fun t => killV ko (S.slots t)) d (.c (.o d)), fun t => killB ko (S.blks t), fun c => if c = d then some (e, k, rows) else if ko = some c then none else S.arrs c⟩
    | none => False
  | some (_, .elt _ _ _ _, _) => False
  | none => False
def RunB (P : Program) (T : Nat → Option Ty) (bx : List Nat) (dst : Option Nat) (op : Op) (K : St → Prop) (S : St) : Prop := match calleeOf S op with
  | some (f, args) => ∃ as res, CallC P f as res ∧ vles (args.map (ev S)) as ∧ Later K ⟨putS S.slots dst res, S.blks, S.arrs⟩
  | none => chk bx (rnOf P T S op) ∧ eff2 P T dst op K S
def SkipB (dst : Option Nat) (K : St → Prop) (S : St) : Prop := K ⟨putS S.slots dst .no, S.blks, S.arrs⟩
def exB (P : Program) (T : Nat → Option Ty) (ops : Array Oper) (bx : List Nat) : List Oper → (St → Prop) → St → Prop
  | [], K, S => K S
  | o :: os, K, S => gd2 (gdV S (gOf ops o.guard)) (RunB P T bx o.dst o.op (exB P T ops bx os K)) (SkipB o.dst (exB P T ops bx os K)) S
section
variable {P : Program} {T : Nat → Option Ty} {ops : Array Oper} {bx : List Nat} {K KA KB : St → Prop} {s : Nat → V} {b : Nat → Option (TypeId × List C)} {a : Nat → Option (TypeId × Nat × List (List F))}
theorem exB_nil : exB P T ops bx [] K ⟨s, b, a⟩ = K ⟨s, b, a⟩ := rfl
theorem exB_cons {o : Oper} {os : List Oper} : exB P T ops bx (o :: os) K ⟨s, b, a⟩ = gd2 (gdV ⟨s, b, a⟩ (gOf ops o.guard)) (RunB P T bx o.dst o.op (exB P T ops bx os K)) (SkipB o.dst (exB P T ops bx os K)) ⟨s, b, a⟩ := rfl
theorem gd2_t {S : St} : gd2 (some true) KA KB S = KA S := rfl
theorem gd2_f {S : St} : gd2 (some false) KA KB S = KB S := rfl
theorem gd2_split {S : St} {c : Bool} (h1 : c = true → KA S) (h2 : c = false → KB S) : gd2 (some c) KA KB S := by
  cases c
  · exact h2 rfl
  · exact h1 rfl
theorem RunB_eq {dst : Option Nat} {op : Op} : RunB P T bx dst op K ⟨s, b, a⟩ = match calleeOf ⟨s, b, a⟩ op with
  | some (f, args) => ∃ as res, CallC P f as res ∧ vles (args.map (ev ⟨s, b, a⟩)) as ∧ Later K ⟨putS s dst res, b, a⟩
  | none => chk bx (rnOf P T ⟨s, b, a⟩ op) ∧ eff2 P T dst op K ⟨s, b, a⟩ := rfl
theorem SkipB_eq {dst : Option Nat} : SkipB dst K ⟨s, b, a⟩ = K ⟨putS s dst .no, b, a⟩ := rfl
theorem bq1 (b : Bool) : (b == true) = b := by cases b <;> rfl
theorem bq0 (b : Bool) : (b == false) = !b := by cases b <;> rfl
theorem later_eq {S : St} : Later K S = K S := rfl
theorem exB_D : ∀ (l : List Oper) (S : St), exB P T ops bx l K S → exD P T ops bx l S K
  | [], S, h => h
  | o :: l, S, h => by
    rw [exB] at h
    rw [exD]
    refine V_gd ?_
    cases hg : gdV S (gOf ops o.guard) with
    | none => rw [hg] at h; exact h.elim
    | some v =>
      rw [hg] at h
      cases v
      · exact .inr ⟨rfl, exB_D l _ h⟩
      · refine .inl ⟨rfl, ?_⟩
        have h : RunB P T bx o.dst o.op (exB P T ops bx l K) S := h
        unfold RunB at h
        split at h
        · rename_i f args hc
          obtain ⟨as, res, h1, h2, h3⟩ := h
          refine ⟨?_, ?_⟩
          · have hnone : effd P T S o.op = none := by
              obtain ⟨c, hop, _, hcal | ⟨t, hcal, _⟩⟩ := callee_is hc
              · rw [hop, effd]
                simp [hcal]
              · rw [hop, effd]
                simp [hcal]
            have : rnOf P T S o.op = [] := rnOf_none hnone
            rw [this]
            cases bx with
            | nil => exact trivial
            | cons x xs => intro b hb; cases hb
          · unfold one
            simp only [hc]
            exact ⟨as, res, h1, h2, exB_D l _ h3⟩
        · rename_i hc
          refine ⟨h.1, ?_⟩
          unfold one
          simp only [hc]
          have h2 := h.2
          unfold eff2 at h2
          unfold eff1
          simp only
          split at h2
          · rename_i he
            rw [he]; exact ⟨h2.1, exB_D l _ (kput_iff.1 h2.2)⟩
          · rename_i he
            rw [he]
            split at h2
            · rename_i hd
              rw [hd]; exact ⟨h2.1, h2.2.1, exB_D l _ h2.2.2⟩
            · exact h2.elim
          · rename_i he
            rw [he]; exact ⟨h2.1, h2.2.1, exB_D l _ h2.2.2⟩
          · rename_i he
            rw [he]; exact ⟨h2.1, exB_D l _ h2.2⟩
          · rename_i he
            rw [he]
            split at h2
            · rename_i hd
              rw [hd]; exact ⟨h2.1, h2.2.1, exB_D l _ h2.2.2⟩
            · exact h2.elim
          · exact h2.elim
          · exact h2.elim
/-! ### Loads and stores in no order, at different places -/
/-- the block at which a load or a store looks -/
def locN (S : St) : Op → Option Nat
  | .load _ x => match ev S x with
    | .loc b _ => some b
    | _ => none
  | .store _ x _ => match ev S x with
    | .loc b _ => some b
    | _ => none
  | _ => none
def exE (P : Program) (T : Nat → Option Ty) (ops : Array Oper) (bx : List Nat) : List Oper → List (Option Nat) → (List (Option Nat) → St → Prop) → St → Prop
  | [], acc, K, S => K acc S
  | o :: os, acc, K, S => gd2 (gdV S (gOf ops o.guard)) (RunB P T bx o.dst o.op (exE P T ops bx os (acc ++ [locN S o.op]) K)) (SkipB o.dst (exE P T ops bx os (acc ++ [none]) K)) S
theorem exE_nil {acc : List (Option Nat)} {K : List (Option Nat) → St → Prop} : exE P T ops bx [] acc K ⟨s, b, a⟩ = K acc ⟨s, b, a⟩ := rfl
theorem exE_cons {o : Oper} {os : List Oper} {acc : List (Option Nat)} {K : List (Option Nat) → St → Prop} : exE P T ops bx (o :: os) acc K ⟨s, b, a⟩ = gd2 (gdV ⟨s, b, a⟩ (gOf ops o.guard)) (RunB P T bx o.dst o.op (exE P T ops bx os (acc ++ [locN ⟨s, b, a⟩ o.op]) K)) (SkipB o.dst (exE P T ops bx os (acc ++ [none]) K)) ⟨s, b, a⟩ := rfl
/-- one operation of the row -/
theorem runB_R {o : Oper} {S : St} {K : St → Prop} (h : RunB P T bx o.dst o.op K S) : ∃ r rn, OneR P T o.dst o.op S r rn ∧ (isSt o.op = false → ∀ b ∈ rn, b ∉ bx) ∧ K (r.at o.dst S) := by
  have h1 : exB P T #[] bx [⟨o.dst, o.op, o.type, o.pos, o.after, none⟩] K S := h
  have h2 := exB_D _ _ h1
  rw [exD] at h2
  rcases gd_V h2 with ⟨_, hc, h3⟩ | ⟨hg, _⟩
  · obtain ⟨r, rn, h4, h5⟩ := one_R h3
    exact ⟨r, rn, h4, one_rn h4 hc, h5⟩
  · cases hg
theorem loc_R {dst : Option Nat} {op : Op} {S : St} {r : Ap} {rn : List Nat} (h : OneR P T dst op S r rn) : (isSt op = true → ∀ b e cs, r = .store b e cs → locN S op = some b) ∧ (isLd op = true → ∀ b ∈ rn, locN S op = some b) := by
  refine ⟨fun hop => ?_, fun hop => ?_⟩
  · cases op <;> first | (cases hop; done) | skip
    intro b e cs hr
    subst hr
    rcases h with ⟨f, args, as, res, hc, h1, h2, h3, h4⟩ | ⟨hcc, p, rs, he, hp, hr⟩
    · cases hc
    · rw [effd] at he
      unfold locN
      split at he
      · split at he
        · cases he
          obtain ⟨_, h2⟩ := hr
          cases h2
          simp only [*]
        · cases he
      · split at he <;> cases he
        exact hr.elim
      · cases he
  · cases op <;> first | (cases hop; done) | skip
    intro b hb
    rcases h with ⟨f, args, as, res, hc, h1, h2, h3, h4⟩ | ⟨hcc, p, rs, he, hp, hr⟩
    · cases hc
    · rw [effd] at he
      unfold locN
      split at he
      · split at he
        · cases he
          simp only [List.mem_cons, List.not_mem_nil, or_false] at hb
          subst hb
          simp only [*]
        · cases he
      · cases he; cases hb
      · repeat' (first | (cases he; done) | split at he)
        all_goals (first | (cases he; cases hb) | cases he)
      · cases he
theorem exE_run : ∀ (l : List Oper) (acc : List (Option Nat)) (K : List (Option Nat) → St → Prop) (S : St), exE P T ops bx l acc K S → ∃ (rs : Nat → Ap) (rns : Nat → List Nat) (ls : List (Option Nat)), ls.length = l.length ∧
    (∀ (i : Nat) o, l[i]? = some o → StepR P T ops o (Sq rs (fun j => (l[j]?).bind (·.dst)) S (fun _ => true) i) (rs i) (rns i) ∧ (isSt o.op = false → ∀ b ∈ rns i, b ∉ bx) ∧
      (isSt o.op = true → ∀ b e cs, rs i = .store b e cs → ls[i]? = some (some b)) ∧ (isLd o.op = true → ∀ b ∈ rns i, ls[i]? = some (some b))) ∧ K (acc ++ ls) (Sq rs (fun j => (l[j]?).bind (·.dst)) S (fun _ => true) l.length)
  | [], acc, K, S, h => ⟨fun _ => .put .no, fun _ => [], [], rfl, fun i o hi => by simp at hi, by rw [List.append_nil]; exact h⟩
  | o :: l, acc, K, S, h => by
    have key : ∀ (r0 : Ap) (rn0 : List Nat) (l0 : Option Nat), StepR P T ops o S r0 rn0 → (isSt o.op = false → ∀ b ∈ rn0, b ∉ bx) → ((isSt o.op = true → ∀ b e cs, r0 = .store b e cs → l0 = some b) ∧ (isLd o.op = true → ∀ b ∈ rn0, l0 = some b)) → exE P T ops bx l (acc ++ [l0]) K (r0.at o.dst S) →
        ∃ (rs : Nat → Ap) (rns : Nat → List Nat) (ls : List (Option Nat)), ls.length = (o :: l).length ∧
        (∀ (i : Nat) o', (o :: l)[i]? = some o' → StepR P T ops o' (Sq rs (fun j => ((o :: l)[j]?).bind (·.dst)) S (fun _ => true) i) (rs i) (rns i) ∧ (isSt o'.op = false → ∀ b ∈ rns i, b ∉ bx) ∧
          (isSt o'.op = true → ∀ b e cs, rs i = .store b e cs → ls[i]? = some (some b)) ∧ (isLd o'.op = true → ∀ b ∈ rns i, ls[i]? = some (some b))) ∧ K (acc ++ ls) (Sq rs (fun j => ((o :: l)[j]?).bind (·.dst)) S (fun _ => true) (o :: l).length) := fun r0 rn0 l0 h1 h2 h2' h3 => by
      obtain ⟨rs, rns, ls, hlen, h4, h5⟩ := exE_run l _ K _ h3
      have hds : (fun j => ((o :: l)[j]?).bind (·.dst)) = (fun i => match i with | 0 => o.dst | i + 1 => (l[i]?).bind (·.dst)) := by
        funext j
        cases j <;> rfl
      refine ⟨fun i => match i with | 0 => r0 | i + 1 => rs i, fun i => match i with | 0 => rn0 | i + 1 => rns i, l0 :: ls, by simp [hlen], fun i o' hi => ?_, ?_⟩
      · match i with
        | 0 =>
          simp at hi; subst hi
          exact ⟨h1, h2, fun hs b e cs hr => by rw [List.getElem?_cons_zero, h2'.1 hs b e cs hr], fun hs b hb => by rw [List.getElem?_cons_zero, h2'.2 hs b hb]⟩
        | i + 1 =>
          rw [hds, Sq_shift]
          simp only [List.getElem?_cons_succ] at hi ⊢
          exact h4 i o' hi
      · rw [hds, List.length_cons, Sq_shift]
        rw [List.append_assoc] at h5
        exact h5
    rw [exE] at h
    cases hg : gdV S (gOf ops o.guard) with
    | none => rw [hg] at h; exact h.elim
    | some v =>
      rw [hg] at h
      cases v
      · exact key (.put .no) [] none (.inr ⟨hg, rfl, rfl⟩) (fun _ b hb => by cases hb) ⟨fun _ b e cs h => (by cases h), fun _ b hb => (by cases hb)⟩ h
      · obtain ⟨r, rn, h2, h3, h4⟩ := runB_R h
        exact key r rn _ (.inl ⟨hg, h2⟩) h3 (loc_R h2) h4
/-- loads and stores that do not wait for each other look at different blocks -/
def bothL (ops : Array Oper) (i j : Nat) : Bool := match ops[i]?, ops[j]? with
  | some a, some b => isLd a.op && isLd b.op
  | _, _ => false
theorem st_nL {op : Op} (h : isSt op = true) : isLd op = false := by cases op <;> first | rfl | cases h
def cmpE (ops : Array Oper) (acc : List (Option Nat)) : Bool := (List.range ops.size).all fun j => (List.range j).all fun i => !frB ops i j || bothL ops i j || (match acc[i]?, acc[j]? with
  | some (some b), some (some c) => b != c
  | _, _ => true)
def accK (ops : Array Oper) (R : St → Prop) (acc : List (Option Nat)) (S : St) : Prop := cmpE ops acc = true ∧ R S
theorem exD_A : ∀ (l : List Oper) (S : St), exD P T ops bx l S K → exA P T ops l S K
  | [], S, h => h
  | o :: l, S, h => by
    rw [exD] at h
    rw [exA]
    refine V_gd ((gd_V h).imp (fun ⟨h1, h2, h3⟩ => ⟨h1, ?_⟩) fun ⟨h1, h2⟩ => ⟨h1, exD_A l _ h2⟩)
    obtain ⟨r, rn, h4, h5⟩ := one_R h3
    exact R_one h4 (exD_A l _ h5)
variable {X : Fr} {w0 : World} {N : Nat}
theorem dw_row {id : Nat} {S : St} {R : St → Prop} {Q : Exit → St → Prop} (hT : ∀ t y, T t = some y → TyOk P t y) (hN : okN N ops = true) (h : exB P T ops [] ops.toList R S) : DW P X w0 N (.region id ops false) (thenD R Q) S :=
  dw_region_k hT hN (exD_A _ _ (exB_D _ _ h))
theorem dw_rowd {id : Nat} {S : St} {R : St → Prop} {Q : Exit → St → Prop} (bx : List Nat) (hT : ∀ t y, T t = some y → TyOk P t y) (hm : P.follows .mixedOrders = true) (hN : okN N ops = true) (hok : okD ops = true) (hbx : boxes ops = bx) (h : exB P T ops bx ops.toList R S) :
    DW P X w0 N (.region id ops true) (thenD R Q) S := dw_draw_k bx hT hm hN hok hbx (exB_D _ _ h)
theorem dw_rowe {id : Nat} {S : St} {R : St → Prop} {Q : Exit → St → Prop} (bx : List Nat) (hT : ∀ t y, T t = some y → TyOk P t y) (hm : P.follows .mixedOrders = true) (hN : okN N ops = true) (hok : okDz true ops = true) (hbx : boxes ops = bx) (h : exE P T ops bx ops.toList [] (accK ops R) S) :
    DW P X w0 N (.region id ops true) (thenD R Q) S := fun E a w hs => by
  obtain ⟨rs, rns, ls, hlen, h1, hcmp, h2⟩ := exE_run _ _ _ _ h
  rw [List.nil_append] at hcmp
  have hds : (fun j => (ops.toList[j]?).bind (·.dst)) = (fun j => (ops[j]?).bind (·.dst) : Nat → Option Nat) := by funext j; simp
  rw [hds, Array.length_toList] at h2
  refine wpIn_region_any hm ?_
  have hbx' : ∀ (i : Nat) o d, ops[i]? = some o → isBox o.op = true → o.dst = some d → d ∈ bx := fun i o d ho hb hd => by
    rw [← hbx]
    refine List.mem_filterMap.2 ⟨o, ?_, by rw [if_pos hb, hd]⟩
    rw [← Array.getElem?_toList] at ho
    exact List.mem_of_getElem? ho
  have hfalse : (fun j => (Array.replicate ops.size false).getD j false) = fun _ => false := by
    funext j
    rw [Array.getD_eq_getD_getElem?, Array.getElem?_replicate]
    split <;> rfl
  have hSq : ∀ n, Sq rs (fun j => (ops[j]?).bind (·.dst)) S (fun _ => false) n = S := by
    intro n
    induction n with
    | zero => rfl
    | succ n ih => rw [Sq, ih]; rfl
  have hs' : Sim X w0 N S E a { w with drawn := w.drawn + 1 } := hs.grow (w' := { w with drawn := w.drawn + 1 }) ⟨rfl, rfl, rfl, Nat.le_refl _, fun _ _ => rfl⟩
  have hpair : ∀ (i j : Nat), i < ops.size → j < ops.size → i < j → frB ops i j = true → bothL ops i j = false → ∀ b c, ls[i]? = some (some b) → ls[j]? = some (some c) → b ≠ c := fun i j hi hj hij hf hbl b c hb hc e => by
    have h3 := List.all_eq_true.1 hcmp j (List.mem_range.2 hj)
    have h4 := List.all_eq_true.1 h3 i (List.mem_range.2 hij)
    rw [hf, hbl, hb, hc, e] at h4
    simp at h4
  refine draw_ok (Q := fun e a' w' => ∃ S' E', thenD R Q e S' ∧ Sim X w0 N S' E' a' w') hT (okN_ok hN) hok hbx' (rs := rs) (rns := rns) (fun i o ho => by
    have := h1 i o (by simpa using ho)
    rw [hds] at this
    exact ⟨this.1, this.2.1⟩) (fun E' a' w' hs2 => ⟨_, E', h2, hs2⟩) (fun _ i j oi oj hi hj hij hf hoi hoj => ?_) ops.size _ E a _ (by simp) (by omega) ?_ (by rw [hfalse, hSq]; exact hs')
  · have qi := h1 i oi (by simpa using hoi)
    have qj := h1 j oj (by simpa using hoj)
    have l1 : isSt oi.op = true → bothL ops i j = false := fun h => by simp [bothL, hoi, hoj, st_nL h]
    have l2 : isSt oj.op = true → bothL ops i j = false := fun h => by simp [bothL, hoi, hoj, st_nL h]
    exact ⟨fun hs hl b e cs hr hb => hpair i j hi hj hij hf (l1 hs) b b (qi.2.2.1 hs b e cs hr) (qj.2.2.2 hl b hb) rfl, fun hl hs b e cs hr hb => hpair i j hi hj hij hf (l2 hs) b b (qi.2.2.2 hl b hb) (qj.2.2.1 hs b e cs hr) rfl⟩
  rw [hfalse]
  intro j o _ h
  cases h
end
/-! ### Forgetting, with arrays of the call's own kept (and named anew) -/
def cleA (bm al : List (Nat × Nat)) : List C → List C → Prop
  | [], [] => True
  | .f x :: xs, .f y :: ys => fle x y ∧ cleA bm al xs ys
  | .o a :: xs, .o b :: ys => (b, a) ∈ al ∧ cleA bm al xs ys
  | .p t o :: xs, .p t' o' :: ys => ((t', t) ∈ bm ∧ o = o') ∧ cleA bm al xs ys
  | _ :: xs, .un :: ys => cleA bm al xs ys
  | _, _ => False
def nm2 (bn : List Nat) : List (Nat × Nat) := bn.map fun t => (t, t)
theorem nm2_mem {bn : List Nat} {t t' : Nat} (h : (t', t) ∈ nm2 bn) : t' = t ∧ t ∈ bn := by
  obtain ⟨a, ha, e⟩ := List.mem_map.1 h
  cases e; exact ⟨rfl, ha⟩
def wkVA (bn : List Nat) (al : List (Nat × Nat)) : V → V → Prop
  | _, .un => True
  | .loc t o, .loc t' o' => t = t' ∧ o = o' ∧ t ∈ bn
  | .c x, .c y => cleA (nm2 bn) al [x] [y]
  | .agg xs, .agg ys => cleA (nm2 bn) al xs ys
  | x, y => vle x y
def wkSA (bn : List Nat) (al : List (Nat × Nat)) (f : Nat → V) : List (Nat × V) → Prop
  | [] => True
  | (t, v) :: r => wkVA bn al (f t) v ∧ wkSA bn al f r
def wkBA (bn : List Nat) (al : List (Nat × Nat)) (f : Nat → Option (TypeId × List C)) : List (Nat × TypeId × List C) → Prop
  | [] => True
  | (t, e, cs) :: r => (match f t with
    | some (e', cs') => e' = e ∧ cleA (nm2 bn) al cs' cs
    | none => False) ∧ wkBA bn al f r
/-- kept arrays: the new name, the old one, what it holds -/
abbrev AL := List (Nat × Nat × TypeId × Nat × List (List F))
def wkAA (f : Nat → Option (TypeId × Nat × List (List F))) : AL → Prop
  | [] => True
  | (_, a, e, k, rows) :: r => f a = some (e, k, rows) ∧ wkAA f r
def lkA' (t : Nat) : AL → Option (Nat × TypeId × Nat × List (List F))
  | [] => none
  | (b, x) :: r => if t = b then some x else lkA' t r
def arrOf (t : Nat) (al : AL) : Option (TypeId × Nat × List (List F)) := (lkA' t al).map (·.2)
theorem arrOf_hit (t a : Nat) (x : TypeId × Nat × List (List F)) (r : AL) : arrOf t ((t, a, x) :: r) = some x := by simp [arrOf, lkA']
theorem arrOf_miss {t b : Nat} (h : (t == b) = false) (x : Nat × TypeId × Nat × List (List F)) (r : AL) : arrOf t ((b, x) :: r) = arrOf t r := by simp [arrOf, lkA', by simpa using h]
theorem arrOf_end (t : Nat) : arrOf t [] = none := rfl
def St.ofA (sl : List (Nat × V)) (bl : List (Nat × TypeId × List C)) (al : AL) : St := ⟨fun t => lkV t sl, fun t => lkB t bl, fun t => arrOf t al⟩
section
variable {w w' : World} {E E' : Env}
theorem cleA_ok {bm al : List (Nat × Nat)} (hI : E'.I = E.I) (hBm : ∀ t' t b, (t', t) ∈ bm → E.B t = some b → E'.B t' = some b) (hL : ∀ b a v, (b, a) ∈ al → E.L a = some v → E'.L b = some v) : ∀ {xs ys : List C} {us : List Value}, cleA bm al xs ys → Reps w E xs us → Reps w E' ys us
  | [], [], us, _, hx => ⟨hx.1, fun j x u h => by simp at h⟩
  | [], _ :: _, _, h, _ => by simp [cleA] at h
  | x :: _, [], _, h, _ => by cases x <;> simp [cleA] at h
  | x :: xs, y :: ys, us, h, hx => by
    match us, hx with
    | [], hx => have := hx.1; simp at this
    | u :: us, hx =>
      have h0 := hx.2 0 _ u rfl rfl
      have hr : Reps w E xs us := ⟨by simpa using hx.1, fun j => hx.2 (j + 1)⟩
      have key : RepC w E' y u ∧ cleA bm al xs ys := by
        cases x with
        | un =>
          cases y with
          | un => simp only [cleA] at h; exact ⟨.un h0.one, h⟩
          | _ => simp [cleA] at h
        | f x =>
          cases y with
          | o => simp [cleA] at h
          | p => simp [cleA] at h
          | un => simp only [cleA] at h; exact ⟨.un h0.one, h⟩
          | f y =>
            simp only [cleA] at h
            cases h0 with
            | f h0 => exact ⟨.f (hI ▸ fle_ok h.1 h0), h.2⟩
        | p t o =>
          cases y with
          | f => simp [cleA] at h
          | o => simp [cleA] at h
          | un => simp only [cleA] at h; exact ⟨.un h0.one, h⟩
          | p t' o' =>
            simp only [cleA] at h
            obtain ⟨⟨hm, rfl⟩, h⟩ := h
            cases h0 with
            | p h0 => exact ⟨.p (hBm _ _ _ hm h0), h⟩
        | o a =>
          cases y with
          | f => simp [cleA] at h
          | p => simp [cleA] at h
          | un => simp only [cleA] at h; exact ⟨.un h0.one, h⟩
          | o b =>
            simp only [cleA] at h
            cases h0 with
            | o h0 h1 => exact ⟨.o (hL b a _ h.1 h0) h1, h.2⟩
      have ih := cleA_ok hI hBm hL key.2 hr
      refine ⟨by simpa using ih.1, fun j z v hz hv => ?_⟩
      match j with
      | 0 => simp at hz hv; subst hz; subst hv; exact key.1
      | j + 1 => exact ih.2 j z v (by simpa using hz) (by simpa using hv)
theorem wkVA_ok {bn : List Nat} {al : List (Nat × Nat)} (hI : E'.I = E.I) (hB : ∀ t b, t ∈ bn → E.B t = some b → E'.B t = some b) (hL : ∀ b a v, (b, a) ∈ al → E.L a = some v → E'.L b = some v) {x y : V} {u : Value} (h : wkVA bn al x y) (hx : RepV w E x u) : RepV w E' y u := by
  unfold wkVA at h
  split at h
  · exact .un
  · obtain ⟨rfl, rfl, hm⟩ := h
    cases hx with | loc hx => exact .loc (hB _ _ hm hx)
  · cases hx with
    | c hx =>
      rename_i x y
      have := cleA_ok (w := w) (us := [u]) hI (fun t' t b hm => by obtain ⟨rfl, hm⟩ := nm2_mem hm; exact hB _ b hm) hL h ⟨rfl, fun j q v hq hv => by
        match j with
        | 0 => simp at hq hv; subst hq; subst hv; exact hx
        | j + 1 => simp at hq⟩
      exact .c (this.2 0 y u rfl rfl)
  · cases hx with | agg hx => exact .agg (cleA_ok hI (fun t' t b hm => by obtain ⟨rfl, hm⟩ := nm2_mem hm; exact hB _ b hm) hL h hx)
  · exact vle_ok hI h hx
theorem wkSA_mem {bn : List Nat} {al : List (Nat × Nat)} {f : Nat → V} : ∀ {l : List (Nat × V)}, wkSA bn al f l → ∀ {t v}, (t, v) ∈ l → wkVA bn al (f t) v
  | (k, x) :: r, h, t, v, hm => by
    rcases List.mem_cons.1 hm with e | e
    · cases e; exact h.1
    · exact wkSA_mem h.2 e
theorem wkBA_mem {bn : List Nat} {al : List (Nat × Nat)} {f : Nat → Option (TypeId × List C)} : ∀ {l : List (Nat × TypeId × List C)}, wkBA bn al f l → ∀ {t e cs}, (t, e, cs) ∈ l → ∃ cs', f t = some (e, cs') ∧ cleA (nm2 bn) al cs' cs
  | (k, x, y) :: r, h, t, e, cs, hm => by
    rcases List.mem_cons.1 hm with he | he
    · cases he
      have := h.1
      split at this
      · rename_i e' cs' hf
        obtain ⟨rfl, h2⟩ := this
        exact ⟨cs', hf, h2⟩
      · exact this.elim
    · exact wkBA_mem h.2 he
theorem wkAA_mem {f : Nat → Option (TypeId × Nat × List (List F))} : ∀ {l : AL}, wkAA f l → ∀ {b a e k rows}, (b, a, e, k, rows) ∈ l → f a = some (e, k, rows)
  | (b', a', e', k', r') :: l, h, b, a, e, k, rows, hm => by
    rcases List.mem_cons.1 hm with he | he
    · cases he; exact h.1
    · exact wkAA_mem h.2 he
theorem lkA'_mem : ∀ {l : AL} {t : Nat} {x}, lkA' t l = some x → (t, x) ∈ l
  | [], t, x, h => by simp [lkA'] at h
  | (b, y) :: r, t, x, h => by
    rw [lkA'] at h
    split at h
    · rename_i e; cases h; subst e; exact List.mem_cons_self ..
    · exact List.mem_cons_of_mem _ (lkA'_mem h)
/-- no array under two names -/
def onceA : AL → Bool
  | [] => true
  | (b, a, _) :: r => (r.all fun x => x.1 != b && x.2.1 != a) && onceA r
theorem once_names : ∀ {l : AL}, onceA l = true → ∀ {b b' a x x'}, (b, a, x) ∈ l → (b', a, x') ∈ l → b = b'
  | (c, d, y) :: r, h, b, b', a, x, x', h1, h2 => by
    simp only [onceA, Bool.and_eq_true, List.all_eq_true, bne_iff_ne, ne_eq] at h
    rcases List.mem_cons.1 h1 with e1 | e1 <;> rcases List.mem_cons.1 h2 with e2 | e2
    · cases e1; cases e2; rfl
    · cases e1; exact absurd rfl (h.1 _ e2).2
    · cases e2; exact absurd rfl (h.1 _ e1).2
    · exact once_names h.2 e1 e2
theorem once_mem : ∀ {l : AL}, onceA l = true → ∀ {b a x}, (b, a, x) ∈ l → lkA' b l = some (a, x)
  | (c, d, y) :: r, h, b, a, x, h1 => by
    simp only [onceA, Bool.and_eq_true, List.all_eq_true, bne_iff_ne, ne_eq] at h
    rw [lkA']
    rcases List.mem_cons.1 h1 with e1 | e1
    · cases e1; rw [if_pos rfl]
    · rw [if_neg (h.1 _ e1).1]
      exact once_mem h.2 e1
def Env.cut (E : Env) (bl : List (Nat × TypeId × List C)) (al : AL) : Env := ⟨fun t => if (bl.lookup t).isSome then E.B t else none, fun b => (lkA' b al).bind fun x => E.L x.1, E.I⟩
theorem cut_B {E : Env} {bl : List (Nat × TypeId × List C)} {al : AL} (t b : Nat) (hm : t ∈ bl.map (·.1)) (h : E.B t = some b) : (E.cut bl al).B t = some b := by
  show (if (bl.lookup t).isSome then E.B t else none) = some b
  have : (bl.lookup t).isSome = true := by
    obtain ⟨⟨k, x⟩, hx, rfl⟩ := List.mem_map.1 hm
    cases hl : bl.lookup k with
    | some _ => rfl
    | none =>
      rw [List.lookup_eq_none_iff] at hl
      have := hl _ hx
      simp at this
  rw [if_pos this]; exact h
theorem cut_L {E : Env} {bl : List (Nat × TypeId × List C)} {al : AL} (h0 : onceA al = true) (b a : Nat) (v : Value) (hm : (b, a) ∈ al.map (fun x => (x.1, x.2.1))) (h : E.L a = some v) : (E.cut bl al).L b = some v := by
  obtain ⟨⟨b', a', x⟩, hx, e⟩ := List.mem_map.1 hm
  cases e
  show ((lkA' b' al).bind fun x => E.L x.1) = some v
  rw [once_mem h0 hx]
  exact h
theorem cut_sim {X : Fr} {S : St} {sl : List (Nat × V)} {bl : List (Nat × TypeId × List C)} {al : AL} (h0 : onceA al = true) (h1 : wkSA (bl.map (·.1)) (al.map fun x => (x.1, x.2.1)) S.slots sl) (h2 : wkBA (bl.map (·.1)) (al.map fun x => (x.1, x.2.1)) S.blks bl) (h3 : wkAA S.arrs al) (hX : (X.B0.all fun t => (bl.lookup t).isSome) = true := by rfl) : ∀ {w0 : World} {N : Nat} {E : Env} {a : Act} {w : World}, Sim X w0 N S E a w → Sim X w0 N (St.ofA sl bl al) (E.cut bl al) a w := fun {w0 N E a w} hs => by
  let E' : Env := E.cut bl al
  have hB : ∀ t b, E'.B t = some b → E.B t = some b := fun t b h => by
    have h : (if (bl.lookup t).isSome then E.B t else none) = some b := h
    split at h
    · exact h
    · cases h
  have hin : ∀ t b, t ∈ bl.map (·.1) → E.B t = some b → E'.B t = some b := fun t b hm h => by
    show (if (bl.lookup t).isSome then E.B t else none) = some b
    have : (bl.lookup t).isSome = true := by
      obtain ⟨⟨k, x⟩, hx, rfl⟩ := List.mem_map.1 hm
      cases hl : bl.lookup k with
      | some _ => rfl
      | none =>
        rw [List.lookup_eq_none_iff] at hl
        have := hl _ hx
        simp at this
    rw [if_pos this]; exact h
  have hL : ∀ b a v, (b, a) ∈ al.map (fun x => (x.1, x.2.1)) → E.L a = some v → E'.L b = some v := fun b a v hm h => by
    obtain ⟨⟨b', a', x⟩, hx, e⟩ := List.mem_map.1 hm
    cases e
    show ((lkA' b' al).bind fun x => E.L x.1) = some v
    rw [once_mem h0 hx]
    exact h
  have hLinv : ∀ b v, E'.L b = some v → ∃ a x, (b, a, x) ∈ al ∧ E.L a = some v := fun b v h => by
    have h : ((lkA' b al).bind fun x => E.L x.1) = some v := h
    cases hq : lkA' b al with
    | none => rw [hq] at h; cases h
    | some y => rw [hq] at h; exact ⟨y.1, y.2, lkA'_mem hq, h⟩
  refine ⟨hs.chg, hs.fr, hs.sz, fun t => ?_, fun t e cs ht => ?_, fun t t' b h h' => hs.inj _ _ _ (hB _ _ h) (hB _ _ h'), fun t b h => hs.bl t b (hB _ _ h), fun b e k rows h => ?_, fun b v g h hg => ?_, fun b b' v v' g h h' hg hg' => ?_, fun t ht => ?_, fun b hb => ?_, hs.il, hs.i0, hs.i1, fun t hb => ?_⟩
  · show RepV w E' (lkV t sl) _
    rw [lkV_eq]
    cases hl : sl.lookup t with
    | none => exact .un
    | some v => exact wkVA_ok (E := E) (E' := E') rfl hin hL (wkSA_mem h1 (lookup_mem hl)) (hs.slot t)
  · have ht : bl.lookup t = some (e, cs) := by rw [← lkB_eq]; exact ht
    obtain ⟨cs', hf, hc⟩ := wkBA_mem h2 (lookup_mem ht)
    obtain ⟨b, vs, h3, h4, h5, h6⟩ := hs.blk _ _ _ hf
    exact ⟨b, vs, hin _ _ (List.mem_map.2 ⟨_, lookup_mem ht, rfl⟩) h3, h4, cleA_ok (E := E) (E' := E') rfl (fun t' t b hm => by obtain ⟨rfl, hm⟩ := nm2_mem hm; exact hin _ b hm) hL hc h5, h6⟩
  · have h : (lkA' b al).map (·.2) = some (e, k, rows) := h
    cases hq : lkA' b al with
    | none => rw [hq] at h; cases h
    | some y =>
      rw [hq] at h
      obtain ⟨a0, x⟩ := y
      cases h
      have hm := lkA'_mem hq
      obtain ⟨v, us, q1, q2, q3, q4, q5⟩ := hs.arr _ _ _ _ (wkAA_mem h3 hm)
      exact ⟨v, us, hL b a0 v (List.mem_map.2 ⟨_, hm, rfl⟩) q1, q2, q3, q4, q5⟩
  · obtain ⟨a, x, hm, hv⟩ := hLinv b v h
    obtain ⟨q1, q2, q3⟩ := hs.al a v g hv hg
    exact ⟨q1, q2, fun t ht => q3 t (hB _ _ ht)⟩
  · obtain ⟨a, x, hm, hv⟩ := hLinv b v h
    obtain ⟨a', x', hm', hv'⟩ := hLinv b' v' h'
    have := hs.ai a a' v v' g hv hv' hg hg'
    subst this
    exact once_names h0 hm hm'
  · have ht : bl.lookup t = none := by rw [← lkB_eq]; exact ht
    show (if (bl.lookup t).isSome then E.B t else none) = none
    rw [ht]; rfl
  · have hb : (lkA' b al).map (·.2) = none := hb
    show ((lkA' b al).bind fun x => E.L x.1) = none
    cases hq : lkA' b al with
    | none => rfl
    | some y => rw [hq] at hb; cases hb
  · show (if (bl.lookup t).isSome then E.B t else none) = some (X.G t)
    rw [if_pos (by simpa using List.all_eq_true.1 hX _ hb)]
    exact hs.kp t hb
theorem weak_ofA {X : Fr} {S : St} {sl : List (Nat × V)} {bl : List (Nat × TypeId × List C)} {al : AL} (h0 : onceA al = true) (h1 : wkSA (bl.map (·.1)) (al.map fun x => (x.1, x.2.1)) S.slots sl) (h2 : wkBA (bl.map (·.1)) (al.map fun x => (x.1, x.2.1)) S.blks bl) (h3 : wkAA S.arrs al) (hX : (X.B0.all fun t => (bl.lookup t).isSome) = true := by rfl) : Weak X S (St.ofA sl bl al) :=
  fun _ _ _ _ _ hs => ⟨_, cut_sim h0 h1 h2 h3 hX hs⟩
end
/-! ### An own array given away: from now on it stays as it is -/
def frzC (a k : Nat) (rows : List (List F)) : C → C
  | .o b => if b = a then .f (.l k rows) else .o b
  | x => x
def frzP (a k : Nat) (rows : List (List F)) : Bool × List C → Bool × List C
  | (b, cs) => (b, cs.map (frzC a k rows))
def frzV (a k : Nat) (rows : List (List F)) : V → V
  | .c x => .c (frzC a k rows x)
  | .agg xs => .agg (xs.map (frzC a k rows))
  | .tup xs => .tup (xs.map (frzP a k rows))
  | .el b k' i off => if b = a then .un else .el b k' i off
  | x => x
def frzB (a k : Nat) (rows : List (List F)) : Option (TypeId × List C) → Option (TypeId × List C)
  | some (e, cs) => some (e, cs.map (frzC a k rows))
  | none => none
section
variable {a k : Nat} {rows : List (List F)} {w : World} {E E' : Env}
theorem frzC_ok (hI : ∀ b, E.I b → E'.I b) (hB : ∀ t b, E.B t = some b → E'.B t = some b) (hL : ∀ c v, c ≠ a → E.L c = some v → E'.L c = some v) (ha : ∀ v, E.L a = some v → RepF w E'.I (.l k rows) v) {x : C} {u : Value} (h : RepC w E x u) : RepC w E' (frzC a k rows x) u := by
  cases h with
  | f h => exact .f (h.mono (fun _ _ => rfl) hI)
  | @o b _ h h1 =>
    unfold frzC
    by_cases hk : b = a
    · simp only [hk, if_true]; exact .f (ha _ (hk ▸ h))
    · simp only [hk, if_false]; exact .o (hL _ _ hk h) h1
  | un h => exact .un h
  | p h => exact .p (hB _ _ h)
theorem frzCs_ok (hI : ∀ b, E.I b → E'.I b) (hB : ∀ t b, E.B t = some b → E'.B t = some b) (hL : ∀ c v, c ≠ a → E.L c = some v → E'.L c = some v) (ha : ∀ v, E.L a = some v → RepF w E'.I (.l k rows) v) {xs : List C} {us : List Value} (h : Reps w E xs us) : Reps w E' (xs.map (frzC a k rows)) us :=
  ⟨by simpa using h.1, fun j x u hx hu => by
    rw [List.getElem?_map] at hx
    cases hj : xs[j]? with
    | none => simp [hj] at hx
    | some y => simp [hj] at hx; subst hx; exact frzC_ok hI hB hL ha (h.2 j y u hj hu)⟩
theorem frzV_ok (hI : ∀ b, E.I b → E'.I b) (hB : ∀ t b, E.B t = some b → E'.B t = some b) (hL : ∀ c v, c ≠ a → E.L c = some v → E'.L c = some v) (ha : ∀ v, E.L a = some v → RepF w E'.I (.l k rows) v) {x : V} {u : Value} (h : RepV w E x u) : RepV w E' (frzV a k rows x) u := by
  cases h with
  | @el b _ _ _ _ _ _ h =>
    unfold frzV
    by_cases hb : b = a
    · simp only [hb, if_true]; exact .un
    · simp only [hb, if_false]; exact .el (hL _ _ hb h)
  | clo h1 h2 => exact .clo (h1.mono (fun _ _ => rfl) hI hB) (h2.mono (fun _ _ => rfl) hI hB)
  | un => exact .un
  | no => exact .no
  | c h => exact .c (frzC_ok hI hB hL ha h)
  | agg h => exact .agg (frzCs_ok hI hB hL ha h)
  | tup hl h =>
    refine .tup (by simpa using hl) fun j x u hx hu => ?_
    rw [List.getElem?_map] at hx
    rename_i xs us
    cases hj : xs[j]? with
    | none => simp [hj] at hx
    | some y =>
      simp [hj] at hx
      subst hx
      have := h j y u hj hu
      obtain ⟨b, cs⟩ := y
      cases b
      · obtain ⟨z, e, hz⟩ := this
        subst e
        exact ⟨_, rfl, frzC_ok hI hB hL ha hz⟩
      · obtain ⟨z, e, hz⟩ := this
        exact ⟨z, e, frzCs_ok hI hB hL ha hz⟩
  | loc h => exact .loc (hB _ _ h)
  | rd us h1 h2 h3 => exact .rd us (hI _ h1) h2 fun j x hj => (h3 j x hj).mono (fun _ _ => rfl) hI
end
theorem weak_frz {X : Fr} {S : St} {a : Nat} {e : TypeId} {k : Nat} {rows : List (List F)} (h : S.arrs a = some (e, k, rows)) (hem : e < 1000000 := by decide) : Weak X S ⟨fun t => frzV a k rows (S.slots t), fun t => frzB a k rows (S.blks t), fun c => if c = a then none else S.arrs c⟩ := by
  intro w0 N E act w hs
  obtain ⟨v, us, hLa, hownA, hrep, hk, hnew⟩ := hs.arr _ _ _ _ h
  have hown := hownA.row hem
  let E' : Env := ⟨E.B, fun c => if c = a then none else E.L c, fun b => E.I b ∨ v.ownB = some b⟩
  have hI : ∀ b, E.I b → E'.I b := fun b h => .inl h
  have hL : ∀ c v, c ≠ a → E.L c = some v → E'.L c = some v := fun c v hc h => (if_neg hc).trans h
  have hLi : ∀ c v, E'.L c = some v → c ≠ a ∧ E.L c = some v := fun c v h => by
    have h : (if c = a then none else E.L c) = some v := h
    by_cases hc : c = a
    · rw [if_pos hc] at h; cases h
    · rw [if_neg hc] at h; exact ⟨hc, h⟩
  have ha : ∀ v', E.L a = some v' → RepF w E'.I (.l k rows) v' := fun v' hv' => by
    rw [hLa] at hv'; cases hv'
    rcases hown.2 with ⟨hv, h0⟩ | ⟨g, cap, cur, hv, hb, hg, hn, hcap, hsz, htake⟩
    · obtain rfl := List.eq_nil_of_length_eq_zero h0
      rw [hv]; exact .e
    · rcases Nat.eq_zero_or_pos rows.length with h0 | h0
      · obtain rfl := List.eq_nil_of_length_eq_zero h0
        rw [hv]; exact .e
      · have hcell : ∀ j x, rows.flatten[j]? = some x → w.cell? ((⟨g, 0, none⟩ : Addr).add j) = some (us.getD j undef) ∧ us[j]? = some (us.getD j undef) := fun j x hx => by
          have hj : j < us.length := by rw [← hrep.1]; exact (List.getElem?_eq_some_iff.1 hx).1
          have e1 : us[j]? = some (us.getD j undef) := by rw [List.getD_eq_getElem?_getD, List.getElem?_eq_getElem hj]; rfl
          refine ⟨?_, e1⟩
          have hB : Blk w g e cur := hg
          have e2 : (⟨g, 0, none⟩ : Addr).add j = ⟨g, j, none⟩ := by simp [Addr.add]; omega
          rw [e2, hB.cell, ← e1, ← htake, List.getElem?_take]
          rw [if_pos (by rw [← hown.1]; exact hj)]
          simp
        rw [hv]
        exact .l (fun j => us.getD j undef) rfl h0 hk hn (.inr (by rw [hv]; rfl)) (fun j x hx => (hcell j x hx).1) fun j x hx => (hrep.2 j x _ hx (hcell j x hx).2).mono (fun _ _ => rfl) hI
  refine ⟨E', hs.chg, hs.fr.mem (fun b hb => hb.imp id fun e => .inr (own_cells hownA e)), hs.sz, fun t => frzV_ok hI (fun _ _ h => h) hL ha (hs.slot t), fun t e' cs ht => ?_, hs.inj, fun t b hb => ?_, fun c e' k' rows' hc => ?_, fun c v' b hv' hb => ?_, fun c c' v1 v2 b h1 h2 h3 h4 => ?_, fun t ht => ?_, fun c hc => ?_, fun b hb => ?_, fun b hb => .inl (hs.i0 b hb), fun b hb => ?_, hs.kp⟩
  · have ht : frzB a k rows (S.blks t) = some (e', cs) := ht
    cases hq : S.blks t with
    | none => rw [hq] at ht; cases ht
    | some y =>
      obtain ⟨e2, cs2⟩ := y
      rw [hq] at ht
      cases ht
      obtain ⟨b, vs, h3, h4, h5, h6⟩ := hs.blk _ _ _ hq
      exact ⟨b, vs, h3, h4, frzCs_ok hI (fun _ _ h => h) hL ha h5, h6⟩
  · refine ⟨(hs.bl t b hb).1, fun h2 => h2.elim (hs.bl t b hb).2 fun h2 => (hs.al a v b hLa h2).2.2 t hb⟩
  · have hc : (if c = a then none else S.arrs c) = some (e', k', rows') := hc
    by_cases hca : c = a
    · rw [if_pos hca] at hc; cases hc
    · rw [if_neg hca] at hc
      obtain ⟨v1, us1, q1, q2, q3, q4, q5⟩ := hs.arr _ _ _ _ hc
      exact ⟨v1, us1, hL _ _ hca q1, q2, ⟨q3.1, fun j x u hx hu => (q3.2 j x u hx hu).mono (fun _ _ => rfl) hI⟩, q4, q5⟩
  · obtain ⟨hca, hv'⟩ := hLi _ _ hv'
    obtain ⟨q1, q2, q3⟩ := hs.al _ _ _ hv' hb
    exact ⟨q1, fun h2 => h2.elim q2 fun h2 => hca (hs.ai c a v' v b hv' hLa hb h2), q3⟩
  · exact hs.ai c c' v1 v2 b (hLi _ _ h1).2 (hLi _ _ h2).2 h3 h4
  · have ht : frzB a k rows (S.blks t) = none := ht
    cases hq : S.blks t with
    | none => exact hs.bn t hq
    | some y => rw [hq] at ht; cases ht
  · have hc : (if c = a then none else S.arrs c) = none := hc
    show (if c = a then none else E.L c) = none
    by_cases hca : c = a
    · rw [if_pos hca]
    · rw [if_neg hca] at hc ⊢; exact hs.an c hc
  · exact hb.elim (hs.il b) fun h2 => (hs.al a v b hLa h2).1
  · exact hb.elim (hs.i1 b) fun h2 => .inr (hnew b h2)
end Go.Dl
