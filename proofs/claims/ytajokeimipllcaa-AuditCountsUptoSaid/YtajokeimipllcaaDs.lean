/-
  The walk's own set of rules.
-/
import Derived.Test.YtajokeimipllcaaDn
import Derived.Test.YtajokeimipllcaaTab
namespace Go.Dl
theorem kC_nil : kC [] = fun x => x := funext fun x => by cases x <;> rfl
theorem kV_nil (x : V) : kV [] x = x := by
  cases x with
  | c x => simp [kV, kC_nil]
  | agg xs => simp [kV, kC_nil]
  | tup xs =>
    have : kP [] = fun x => x := funext fun x => by obtain ⟨b, cs⟩ := x; simp [kP, kC_nil]
    simp [kV, this]
  | _ => rfl
theorem kB_nil (x : Option (TypeId × List C)) : kB [] x = x := by
  cases x with
  | none => rfl
  | some y => obtain ⟨e, cs⟩ := y; simp [kB, kC_nil]
theorem kA_nil (f : Nat → Option (TypeId × Nat × List (List F))) : kA [] f = f := rfl
theorem upL_nil {α : Type} (f : Nat → Option α) : upL f [] = f := rfl
theorem upL_cons {α : Type} (f : Nat → Option α) (t : Nat) (x : α) (r : List (Nat × α)) : upL f ((t, x) :: r) = upd (upL f r) t (some x) := rfl
section
variable {K : V → Prop}
theorem kput_b {c : Bool} : kput K (.c (.f (.s (.bool c)))) = ∀ b, c = b → K (.c (.f (.s (.bool b)))) := rfl
theorem kput_i {k : IntKind} {n : Int} : kput K (.c (.f (.s (.int k n)))) = K (.c (.f (.s (.int k n)))) := rfl
theorem kput_s {x : ByteArray} : kput K (.c (.f (.s (.string x)))) = K (.c (.f (.s (.string x)))) := rfl
theorem kput_sl {A : Option Addr} {n c : Nat} : kput K (.c (.f (.s (.slice A n c)))) = K (.c (.f (.s (.slice A n c)))) := rfl
theorem kput_fn {f : Fn} {x y : Array Value} : kput K (.c (.f (.s (.func f x y)))) = K (.c (.f (.s (.func f x y)))) := rfl
theorem kput_nf : kput K (.c (.f (.s .nilFunc))) = K (.c (.f (.s .nilFunc))) := rfl
theorem kput_np {a : Option Addr} : kput K (.c (.f (.s (.pointer a)))) = K (.c (.f (.s (.pointer a)))) := rfl
theorem kput_l {k : Nat} {rows : List (List F)} : kput K (.c (.f (.l k rows))) = K (.c (.f (.l k rows))) := rfl
theorem kput_o {a : Nat} : kput K (.c (.o a)) = K (.c (.o a)) := rfl
theorem kput_cu : kput K (.c .un) = K (.c .un) := rfl
theorem kput_un : kput K .un = K .un := rfl
theorem kput_no : kput K .no = K .no := rfl
theorem kput_agg {xs : List C} : kput K (.agg xs) = K (.agg xs) := rfl
theorem kput_tup {xs : List (Bool × List C)} : kput K (.tup xs) = K (.tup xs) := rfl
theorem kput_loc {t o : Nat} : kput K (.loc t o) = K (.loc t o) := rfl
theorem kput_rd {xs : List F} : kput K (.rd xs) = K (.rd xs) := rfl
theorem kput_el {a k i o : Nat} : kput K (.el a k i o) = K (.el a k i o) := rfl
theorem kput_clo {f : FuncId} {x y : List W} : kput K (.clo f x y) = K (.clo f x y) := rfl
end
theorem all_t {p : Bool → Prop} : (∀ b, true = b → p b) = p true := propext ⟨fun h => h _ rfl, fun h _ e => e ▸ h⟩
theorem all_f {p : Bool → Prop} : (∀ b, false = b → p b) = p false := propext ⟨fun h => h _ rfl, fun h _ e => e ▸ h⟩
theorem bsplit {c : Bool} {p : Bool → Prop} (h1 : c = true → p true) (h2 : c = false → p false) : ∀ b, c = b → p b := fun b e => by
  cases b
  · exact h2 e
  · exact h1 e
/-- what follows; behind a lambda, so that a closing tactic does not look into it -/
structure Kt (R : St → Prop) (D : Unit → St → Prop) : Prop where
  k : ∀ S', D () S' → R S'
abbrev Kont (R D : St → Prop) : Prop := Kt R fun _ => D
theorem kont {R D : St → Prop} {S : St} (h : Kont R D) (hd : D S) : R S := h.k S hd
theorem dw_seq_c {P : Program} {X : Fr} {w0 : World} {N : Nat} {Q : Exit → St → Prop} {S : St} {x y : Code} (h : ∀ R : St → Prop, Kont R (DW P X w0 N y Q) → DW P X w0 N x (thenD R Q) S) : DW P X w0 N (.seq x y) Q S := dw_seq_k fun R hR => h R ⟨hR⟩
theorem dw_last_c {P : Program} {X : Fr} {w0 : World} {N : Nat} {Q : Exit → St → Prop} {S : St} {c : Code} (h : ∀ R : St → Prop, Kont R (Q .normal) → DW P X w0 N c (thenD R Q) S) : DW P X w0 N c Q S := dw_norm (dw_last_k fun R hR => h R ⟨hR⟩)
def forQ (id tI ta tb n k : Nat) (I : St → Prop) (Q : Exit → St → Prop) : Exit → St → Prop
  | .normal, S => k < n ∧ S.slots tI = .c (.f (.s (.int .i64 k))) ∧ I ⟨upd (upd (upd S.slots ta (.c (.f (.s (.int .i64 k))))) tb (.c (.f (.s (.int .i64 (k + 1 : Nat)))))) tI (.c (.f (.s (.int .i64 (k + 1 : Nat))))), S.blks, S.arrs⟩
  | .exit i, S => if i = id then Q .normal S else Q (.exit i) S
  | e, S => Q e S
section
variable {P : Program} {X : Fr} {w0 : World} {N : Nat} {S : St} {T : Nat → Option Ty} {Q : Exit → St → Prop}
/-- a loop that counts -/
theorem dw_for {ι : Type} (n : Nat) (I : Nat → ι → St) (J : Nat → ι → Prop) (x0 : ι) {id r2 tI ta tb : Nat} {ty ty2 y1 y2 y3 : TypeId} {p1 p2 p3 : String} {a1 a2 a3 : Array Edge} {H B : Code}
    (hn : n < 9223372036854775807) (hT : ∀ t y, T t = some y → TyOk P t y) (hN : ta < N ∧ tb < N ∧ tI < N)
    (h0 : Weak X S (I 0 x0)) (hJ : J 0 x0)
    (hB : ∀ k x, J k x → k ≤ n → ∀ R, Kont R (DW P X w0 N B (forQ id tI ta tb n k (fun S' => ∃ x', J (k + 1) x' ∧ Weak X S' (I (k + 1) x')) Q)) → DW P X w0 N H (thenD R (forQ id tI ta tb n k (fun S' => ∃ x', J (k + 1) x' ∧ Weak X S' (I (k + 1) x')) Q)) (I k x)) :
    DW P X w0 N (.block id (.loop (.seq H (.seq B (.region r2 #[⟨some ta, .move (.tmp tI), y1, p1, a1, none⟩, ⟨some tb, .binOp .add ty (.tmp ta) (.const (.int .i64 1)) ty2, y2, p2, a2, none⟩, ⟨some tI, .assign (.tmp tb), y3, p3, a3, none⟩] false))))) Q S := by
  have okN2 : okN N #[⟨some ta, .move (.tmp tI), y1, p1, a1, none⟩, ⟨some tb, .binOp .add ty (.tmp ta) (.const (.int .i64 1)) ty2, y2, p2, a2, none⟩, ⟨some tI, .assign (.tmp tb), y3, p3, a3, none⟩] = true := by simp [okN, hN]
  refine dw_block ?_
  refine dw_loop (ι := {x : Nat × ι // x.1 ≤ n ∧ J x.1 x.2}) (fun x => I x.1.1 x.1.2) (fun x => n - x.1.1) ⟨(0, x0), Nat.zero_le _, hJ⟩ h0 ?_
  rintro ⟨⟨k, x⟩, hk, hJk⟩
  simp only at hk hJk ⊢
  refine dw_seq ?_
  have tail : ∀ (e : Exit) (S' : St), e ≠ .normal → forQ id tI ta tb n k (fun S' => ∃ x', J (k + 1) x' ∧ Weak X S' (I (k + 1) x')) Q e S' → inBlockD id Q e S' := fun e S' hne hq => by
    cases e with
    | normal => exact absurd rfl hne
    | exit i => simp only [forQ] at hq; simp only [inBlockD]; exact hq
    | _ => exact hq
  refine dw_mono (hB k x hJk hk (DW P X w0 N B (forQ id tI ta tb n k (fun S' => ∃ x', J (k + 1) x' ∧ Weak X S' (I (k + 1) x')) Q)) ⟨fun _ h => h⟩) fun e S1 hq => ?_
  cases e with
  | normal =>
    simp only [thenD] at hq ⊢
    refine dw_seq (dw_mono hq fun e S' hq => ?_)
    cases e with
    | normal =>
      obtain ⟨hlt, q1, x', hJ', hw⟩ := hq
      simp only [thenD]
      refine dw_norm ?_
      refine dw_rowU hT okN2 ?_
      obtain ⟨s', b', ar'⟩ := S'
      simp only at q1 hw
      show exU P T X w0 N _ [_, _, _] _ ⟨s', b', ar'⟩
      have hwr : (IntKind.i64).wrap ((k : Int) + 1) = ((k + 1 : Nat) : Int) := by
        have := wrap_nat (n := k) (by omega)
        simpa using this
      rw [exU_cons]
      simp only [gOf, gdV, gd2_t]
      rw [RunU_eq]
      simp only [stops, eff3, effd, ev, q1, true_and, kput_iff, putS]
      rw [exU_cons]
      simp only [gOf, gdV, gd2_t]
      rw [RunU_eq]
      simp only [stops, eff3, effd, ev, cv, upd_same, bin, if_true, true_and, kput_iff, putS, hwr]
      rw [exU_cons]
      simp only [gOf, gdV, gd2_t]
      rw [RunU_eq]
      simp only [stops, eff3, effd, ev, true_and, kput_iff, putS, upd_same, exU_nil]
      exact ⟨⟨(k + 1, x'), hlt, hJ'⟩, by simp only; omega, hw⟩
    | exit i =>
      simp only [thenD]
      exact tail _ _ (by simp) hq
    | _ => exact tail _ _ (by simp) hq
  | exit i => exact tail (.exit i) S1 (by simp) hq
  | goto l => exact tail (.goto l) S1 (by simp) hq
  | ret => exact tail .ret S1 (by simp) hq
  | panic c => exact tail (.panic c) S1 (by simp) hq
  | outgrown => exact tail .outgrown S1 (by simp) hq
theorem dw_isfor {id r2 tI ta tb : Nat} {ty ty2 y1 y2 y3 : TypeId} {p1 p2 p3 : String} {a1 a2 a3 : Array Edge} {H B : Code}
    (h : DW P X w0 N (.block id (.loop (.seq H (.seq B (.region r2 #[⟨some ta, .move (.tmp tI), y1, p1, a1, none⟩, ⟨some tb, .binOp .add ty (.tmp ta) (.const (.int .i64 1)) ty2, y2, p2, a2, none⟩, ⟨some tI, .assign (.tmp tb), y3, p3, a3, none⟩] false))))) Q S) :
    DW P X w0 N (.block id (.loop (.seq H (.seq B (.region r2 #[⟨some ta, .move (.tmp tI), y1, p1, a1, none⟩, ⟨some tb, .binOp .add ty (.tmp ta) (.const (.int .i64 1)) ty2, y2, p2, a2, none⟩, ⟨some tI, .assign (.tmp tb), y3, p3, a3, none⟩] false))))) Q S := h
end
theorem dop_call_s {P : Program} {X : Fr} {w0 : World} {N : Nat} {S : St} {o : Oper} {K : St → Prop} {c : Call} {f : FuncId} (hop : o.op = .call c) (hf : c.callee = .value (.func f)) {res : V} (hc : CallC P f (c.args.toList.map (ev S)) res) (ha : allV (c.args.toList.map (ev S)) = true) (hK : K ⟨putS S.slots o.dst res, S.blks, S.arrs⟩) : DOp P X w0 N o K S :=
  dop_call hop hf hc (vles_self ha) hK
theorem dw_ret_nil {P : Program} {X : Fr} {w0 : World} {N : Nat} {S : St} {Q : Exit → St → Prop} (t a : Nat) (e : TypeId) (k : Nat) (h : S.slots t = .c (.f (.s (.slice none 0 0)))) (ha : S.arrs a = none) (hem : e < 1000000)
    (hq : Q .ret ⟨upd S.slots t (.c (.o a)), S.blks, fun c => if c = a then some (e, k, []) else S.arrs c⟩) : DW P X w0 N .ret Q S := dw_weak (weak_nil t a e k h ha hem) (dw_ret hq)
theorem retM_r {T : Nat → Option Ty} {rs : List ResultVar} {res : V} {bl : BL} {al : RL} {S : St} (am : List (Nat × Nat)) (h : RetM T rs res bl al am S) : retM T rs res bl al .ret S := ⟨am, h⟩
theorem retM_n {T : Nat → Option Ty} {rs : List ResultVar} {res : V} {bl : BL} {al : RL} {S : St} (am : List (Nat × Nat)) (h : RetM T rs res bl al am S) : retM T rs res bl al .normal S := ⟨am, h⟩
def isL : Option (TypeId × Nat × List (List F)) → F → Prop
  | some (e, k, rows), .l k' rows' => e < 1000000 ∧ k = k' ∧ rows = rows'
  | _, _ => False
section
variable {A : Nat → Option (TypeId × Nat × List (List F))} {xs ys : List C}
theorem cleL_nil : cleL A [] [] = True := rfl
theorem cleL_f {x y : F} : cleL A (.f x :: xs) (.f y :: ys) = (fle x y ∧ cleL A xs ys) := rfl
theorem cleL_o {a : Nat} {y : F} : cleL A (.o a :: xs) (.f y :: ys) = (isL (A a) y ∧ cleL A xs ys) := by
  refine propext (and_congr ?_ Iff.rfl)
  cases hq : A a with
  | none => simp [isL]
  | some q =>
    obtain ⟨e, k, rows⟩ := q
    cases y with
    | s v => simp [isL]
    | fc f ca => simp [isL]
    | l k' rows' => simp only [isL, Option.some.injEq, Prod.mk.injEq, F.l.injEq]; constructor
                    · rintro ⟨e', k2, r2, ⟨rfl, rfl, rfl⟩, ⟨rfl, rfl⟩, he⟩; exact ⟨he, rfl, rfl⟩
                    · rintro ⟨he, rfl, rfl⟩; exact ⟨_, _, _, ⟨rfl, rfl, rfl⟩, ⟨rfl, rfl⟩, he⟩
end
attribute [push_cast] cleL_nil cleL_f cleL_o
theorem retL_r {T : Nat → Option Ty} {rs : List ResultVar} {res : V} {S : St} (h : RetL T rs res S) : retL T rs res .ret S := h
theorem retL_n {T : Nat → Option Ty} {rs : List ResultVar} {res : V} {S : St} (h : RetL T rs res S) : retL T rs res .normal S := h
attribute [push_cast] kput_b kput_i kput_s kput_sl kput_fn kput_nf kput_np kput_l kput_o kput_cu kput_un kput_no kput_agg kput_tup kput_loc kput_rd kput_el kput_clo all_t all_f
theorem killV_cf {ko : Option Nat} {x : F} : killV ko (.c (.f x)) = .c (.f x) := rfl
theorem killV_cu {ko : Option Nat}  : killV ko (.c .un) = .c .un := rfl
theorem killV_co {ko : Option Nat} {b : Nat} : killV ko (.c (.o b)) = .c (killC ko (.o b)) := rfl
theorem killV_ag {ko : Option Nat} {xs : List C} : killV ko (.agg xs) = .agg (xs.map (killC ko)) := rfl
theorem killV_tu {ko : Option Nat} {xs : List (Bool × List C)} : killV ko (.tup xs) = .tup (xs.map (killP ko)) := rfl
theorem killV_lo {ko : Option Nat} {t o : Nat} : killV ko (.loc t o) = .loc t o := rfl
theorem killV_rd {ko : Option Nat} {xs : List F} : killV ko (.rd xs) = .rd xs := rfl
theorem killV_un {ko : Option Nat}  : killV ko .un = .un := rfl
theorem killV_no {ko : Option Nat}  : killV ko .no = .no := rfl
theorem killV_cl {ko : Option Nat} {f : FuncId} {x y : List W} : killV ko (.clo f x y) = .clo f x y := rfl
theorem killV_el {ko : Option Nat} {b k i o : Nat} : killV ko (.el b k i o) = if ko = some b then .un else .el b k i o := rfl
theorem killV_C_p {ko : Option Nat} {t o : Nat} : killC ko (.p t o) = .p t o := rfl
theorem killV_C_o {ko : Option Nat} {b : Nat} : killC ko (.o b) = if ko = some b then .un else .o b := rfl
theorem killV_C_f {ko : Option Nat} {x : F} : killC ko (.f x) = .f x := rfl
theorem killV_C_u {ko : Option Nat}  : killC ko .un = .un := rfl
theorem killV_P {ko : Option Nat} {b : Bool} {cs : List C} : killP ko (b, cs) = (b, cs.map (killC ko)) := rfl
theorem killV_B_s {ko : Option Nat} {e : TypeId} {cs : List C} : killB ko (some (e, cs)) = some (e, cs.map (killC ko)) := rfl
theorem killV_B_n {ko : Option Nat}  : killB ko none = none := rfl
theorem killV_B_z {x : Option (TypeId × List C)} : killB none x = x := by
  have h : killC none = fun x => x := funext fun x => by cases x <;> simp [killC]
  cases x with
  | none => rfl
  | some y => obtain ⟨e, cs⟩ := y; simp [killB, h]
theorem killV_z {x : V} : killV none x = x := by
  have h : killC none = fun x => x := funext fun x => by cases x <;> simp [killC]
  have h2 : killP none = fun x => x := funext fun x => by obtain ⟨b, cs⟩ := x; simp [killP, h]
  cases x <;> simp [killV, h, h2]
theorem kV_cf {ks : List Nat} {x : F} : kV ks (.c (.f x)) = .c (.f x) := rfl
theorem kV_cu {ks : List Nat}  : kV ks (.c .un) = .c .un := rfl
theorem kV_co {ks : List Nat} {b : Nat} : kV ks (.c (.o b)) = .c (kC ks (.o b)) := rfl
theorem kV_ag {ks : List Nat} {xs : List C} : kV ks (.agg xs) = .agg (xs.map (kC ks)) := rfl
theorem kV_tu {ks : List Nat} {xs : List (Bool × List C)} : kV ks (.tup xs) = .tup (xs.map (kP ks)) := rfl
theorem kV_lo {ks : List Nat} {t o : Nat} : kV ks (.loc t o) = .loc t o := rfl
theorem kV_rd {ks : List Nat} {xs : List F} : kV ks (.rd xs) = .rd xs := rfl
theorem kV_un {ks : List Nat}  : kV ks .un = .un := rfl
theorem kV_no {ks : List Nat}  : kV ks .no = .no := rfl
theorem kV_cl {ks : List Nat} {f : FuncId} {x y : List W} : kV ks (.clo f x y) = .clo f x y := rfl
theorem kV_el {ks : List Nat} {b k i o : Nat} : kV ks (.el b k i o) = if ks.contains b then .un else .el b k i o := rfl
theorem kV_C_p {ks : List Nat} {t o : Nat} : kC ks (.p t o) = .p t o := rfl
theorem kV_C_o {ks : List Nat} {b : Nat} : kC ks (.o b) = if ks.contains b then .un else .o b := rfl
theorem kV_C_f {ks : List Nat} {x : F} : kC ks (.f x) = .f x := rfl
theorem kV_C_u {ks : List Nat}  : kC ks .un = .un := rfl
theorem kV_P {ks : List Nat} {b : Bool} {cs : List C} : kP ks (b, cs) = (b, cs.map (kC ks)) := rfl
theorem kV_B_s {ks : List Nat} {e : TypeId} {cs : List C} : kB ks (some (e, cs)) = some (e, cs.map (kC ks)) := rfl
theorem kV_B_n {ks : List Nat}  : kB ks none = none := rfl
theorem frzV_cf {a0 k0 : Nat} {r0 : List (List F)} {x : F} : frzV a0 k0 r0 (.c (.f x)) = .c (.f x) := rfl
theorem frzV_cu {a0 k0 : Nat} {r0 : List (List F)}  : frzV a0 k0 r0 (.c .un) = .c .un := rfl
theorem frzV_co {a0 k0 : Nat} {r0 : List (List F)} {b : Nat} : frzV a0 k0 r0 (.c (.o b)) = .c (frzC a0 k0 r0 (.o b)) := rfl
theorem frzV_ag {a0 k0 : Nat} {r0 : List (List F)} {xs : List C} : frzV a0 k0 r0 (.agg xs) = .agg (xs.map (frzC a0 k0 r0)) := rfl
theorem frzV_tu {a0 k0 : Nat} {r0 : List (List F)} {xs : List (Bool × List C)} : frzV a0 k0 r0 (.tup xs) = .tup (xs.map (frzP a0 k0 r0)) := rfl
theorem frzV_lo {a0 k0 : Nat} {r0 : List (List F)} {t o : Nat} : frzV a0 k0 r0 (.loc t o) = .loc t o := rfl
theorem frzV_rd {a0 k0 : Nat} {r0 : List (List F)} {xs : List F} : frzV a0 k0 r0 (.rd xs) = .rd xs := rfl
theorem frzV_un {a0 k0 : Nat} {r0 : List (List F)}  : frzV a0 k0 r0 .un = .un := rfl
theorem frzV_no {a0 k0 : Nat} {r0 : List (List F)}  : frzV a0 k0 r0 .no = .no := rfl
theorem frzV_cl {a0 k0 : Nat} {r0 : List (List F)} {f : FuncId} {x y : List W} : frzV a0 k0 r0 (.clo f x y) = .clo f x y := rfl
theorem frzV_el {a0 k0 : Nat} {r0 : List (List F)} {b k i o : Nat} : frzV a0 k0 r0 (.el b k i o) = if b = a0 then .un else .el b k i o := rfl
theorem frzV_C_p {a k : Nat} {rows : List (List F)} {t o : Nat} : frzC a k rows (.p t o) = .p t o := rfl
theorem frzV_C_o {a0 k0 : Nat} {r0 : List (List F)} {b : Nat} : frzC a0 k0 r0 (.o b) = if b = a0 then .f (.l k0 r0) else .o b := rfl
theorem frzV_C_f {a0 k0 : Nat} {r0 : List (List F)} {x : F} : frzC a0 k0 r0 (.f x) = .f x := rfl
theorem frzV_C_u {a0 k0 : Nat} {r0 : List (List F)}  : frzC a0 k0 r0 .un = .un := rfl
theorem frzV_P {a0 k0 : Nat} {r0 : List (List F)} {b : Bool} {cs : List C} : frzP a0 k0 r0 (b, cs) = (b, cs.map (frzC a0 k0 r0)) := rfl
theorem frzV_B_s {a0 k0 : Nat} {r0 : List (List F)} {e : TypeId} {cs : List C} : frzB a0 k0 r0 (some (e, cs)) = some (e, cs.map (frzC a0 k0 r0)) := rfl
theorem frzV_B_n {a0 k0 : Nat} {r0 : List (List F)}  : frzB a0 k0 r0 none = none := rfl
theorem rn_c {bm am : List (Nat × Nat)} {x : C} : rnV bm am (.c x) = .c (rnC bm am x) := rfl
theorem rn_ag {bm am : List (Nat × Nat)} {xs : List C} : rnV bm am (.agg xs) = .agg (xs.map (rnC bm am)) := rfl
theorem rn_tu {bm am : List (Nat × Nat)} {xs : List (Bool × List C)} : rnV bm am (.tup xs) = .tup (xs.map (rnP bm am)) := rfl
theorem rn_lo {bm am : List (Nat × Nat)} {t o : Nat} : rnV bm am (.loc t o) = .loc (lookD bm t) o := rfl
theorem rn_rd {bm am : List (Nat × Nat)} {xs : List F} : rnV bm am (.rd xs) = .rd xs := rfl
theorem rn_un {bm am : List (Nat × Nat)} : rnV bm am .un = .un := rfl
theorem rn_cl {bm am : List (Nat × Nat)} {f : FuncId} {x y : List W} : rnV bm am (.clo f x y) = .clo f (x.map (rnW bm)) (y.map (rnW bm)) := rfl
theorem rn_C_o {bm am : List (Nat × Nat)} {b : Nat} : rnC bm am (.o b) = .o (lookD am b) := rfl
theorem rn_C_p {bm am : List (Nat × Nat)} {t o : Nat} : rnC bm am (.p t o) = .p (lookD bm t) o := rfl
theorem rn_C_f {bm am : List (Nat × Nat)} {x : F} : rnC bm am (.f x) = .f x := rfl
theorem rn_C_u {bm am : List (Nat × Nat)} : rnC bm am .un = .un := rfl
theorem rn_P {bm am : List (Nat × Nat)} {b : Bool} {cs : List C} : rnP bm am (b, cs) = (b, cs.map (rnC bm am)) := rfl
theorem rn_W_l {bm : List (Nat × Nat)} {t o : Nat} : rnW bm (.loc t o) = .loc (lookD bm t) o := rfl
theorem rn_W_f {bm : List (Nat × Nat)} {x : F} : rnW bm (.f x) = .f x := rfl
theorem rn_W_a {bm : List (Nat × Nat)} {x : List F} : rnW bm (.agg x) = .agg x := rfl
theorem rn_W_r {bm : List (Nat × Nat)} {x : List F} : rnW bm (.rd x) = .rd x := rfl
theorem kA_c {ks : List Nat} {f : Nat → Option (TypeId × Nat × List (List F))} {c : Nat} : kA ks f c = if ks.contains c then none else f c := rfl
attribute [push_cast] killV_cf killV_cu killV_co killV_ag killV_tu killV_lo killV_rd killV_un killV_no killV_cl killV_el killV_C_p killV_C_o killV_C_f killV_C_u killV_P killV_B_s killV_B_n killV_B_z killV_z kV_cf kV_cu kV_co kV_ag kV_tu kV_lo kV_rd kV_un kV_no kV_cl kV_el kV_C_p kV_C_o kV_C_f kV_C_u kV_P kV_B_s kV_B_n frzV_cf frzV_cu frzV_co frzV_ag frzV_tu frzV_lo frzV_rd frzV_un frzV_no frzV_cl frzV_el frzV_C_p frzV_C_o frzV_C_f frzV_C_u frzV_P frzV_B_s frzV_B_n rn_c rn_ag rn_tu rn_lo rn_rd rn_un rn_cl rn_C_o rn_C_p rn_C_f rn_C_u rn_P rn_W_l rn_W_f rn_W_a rn_W_r kA_c
section
variable {P : Program} {T : Nat → Option Ty} {p : Prop} {rn : List Nat} {dst : Option Nat} {op : Op} {bx : List Nat} {K : St → Prop} {X : Fr} {w0 : World} {N : Nat} {s : Nat → V} {b : Nat → Option (TypeId × List C)} {a : Nat → Option (TypeId × Nat × List (List F))}
def effK (x : Option Out) (dst : Option Nat) (K : St → Prop) (S : St) : Prop := match x with
  | some (p, .put v, _) => p ∧ kput (fun v => K ⟨putS S.slots dst v, S.blks, S.arrs⟩) v
  | some (p, .box e cs, _) => match dst with
    | some d => p ∧ S.blks d = none ∧ K ⟨upd S.slots d (.loc d 0), upd S.blks d (some (e, cs)), S.arrs⟩
    | none => False
  | some (p, .store b e cs, _) => dst = none ∧ p ∧ K ⟨S.slots, upd S.blks b (some (e, cs)), S.arrs⟩
  | some (p, .mk _ k rows, _) => p ∧ K ⟨putS S.slots dst (.c (.f (.l k rows))), S.blks, S.arrs⟩
  | some (p, .app ko e k rows, _) => match dst with
    | some d => p ∧ (S.arrs d = none ∨ ko = some d) ∧ K ⟨upd (fun t => killV ko (S.slots t)) d (.c (.o d)), fun t => killB ko (S.blks t), fun c => if c = d then some (e, k, rows) else if ko = some c then none else S.arrs c⟩
    | none => False
  | some (p, .elt c e k rows, _) => dst = none ∧ p ∧ K ⟨S.slots, S.blks, fun x => if x = c then some (e, k, rows) else S.arrs x⟩
  | none => False
theorem effK_congr {x x' : Option Out} {dst : Option Nat} {K : St → Prop} {S : St} (h : x = x') : effK x dst K S = effK x' dst K S := h ▸ rfl
attribute [congr] effK_congr
def effJ (x : Option Out) (dst : Option Nat) (K : St → Prop) (S : St) : Prop := match x with
  | some (p, .put v, _) => p ∧ kput (fun v => K ⟨putS S.slots dst v, S.blks, S.arrs⟩) v
  | some (p, .box e cs, _) => match dst with
    | some d => p ∧ S.blks d = none ∧ K ⟨upd S.slots d (.loc d 0), upd S.blks d (some (e, cs)), S.arrs⟩
    | none => False
  | some (p, .store b e cs, _) => dst = none ∧ p ∧ K ⟨S.slots, upd S.blks b (some (e, cs)), S.arrs⟩
  | some (p, .mk _ k rows, _) => p ∧ K ⟨putS S.slots dst (.c (.f (.l k rows))), S.blks, S.arrs⟩
  | some (p, .app ko e k rows, _) => match dst with
    | some d => p ∧ (S.arrs d = none ∨ ko = some d) ∧ K ⟨upd (fun t => killV ko (S.slots t)) d (.c (.o d)), fun t => killB ko (S.blks t), fun c => if c = d then some (e, k, rows) else if ko = some c then none else S.arrs c⟩
    | none => False
  | some (_, .elt _ _ _ _, _) => False
  | none => False
theorem effJ_congr {x x' : Option Out} {dst : Option Nat} {K : St → Prop} {S : St} (h : x = x') : effJ x dst K S = effJ x' dst K S := h ▸ rfl
attribute [congr] effJ_congr
theorem effK_put {v : V} : effK (some (p, .put v, rn)) dst K ⟨s, b, a⟩ = (p ∧ kput (fun v => K ⟨putS s dst v, b, a⟩) v) := rfl
theorem effK_box {e : TypeId} {cs : List C} {d : Nat} : effK (some (p, .box e cs, rn)) (some d) K ⟨s, b, a⟩ = (p ∧ b d = none ∧ K ⟨upd s d (.loc d 0), upd b d (some (e, cs)), a⟩) := rfl
theorem effK_store {c : Nat} {e : TypeId} {cs : List C} : effK (some (p, .store c e cs, rn)) none K ⟨s, b, a⟩ = (p ∧ K ⟨s, upd b c (some (e, cs)), a⟩) := propext ⟨fun h => h.2, fun h => ⟨rfl, h⟩⟩
theorem effK_mk {e : TypeId} {k : Nat} {rows : List (List F)} : effK (some (p, .mk e k rows, rn)) dst K ⟨s, b, a⟩ = (p ∧ K ⟨putS s dst (.c (.f (.l k rows))), b, a⟩) := rfl
theorem effK_app {ko : Option Nat} {e : TypeId} {k : Nat} {rows : List (List F)} {d : Nat} : effK (some (p, .app ko e k rows, rn)) (some d) K ⟨s, b, a⟩ = (p ∧ (a d = none ∨ ko = some d) ∧ K ⟨upd (fun t => killV ko (s t)) d (.c (.o d)), fun t => killB ko (b t), fun c => if c = d then some (e, k, rows) else if ko = some c then none else a c⟩) := rfl
theorem effK_elt {c : Nat} {e : TypeId} {k : Nat} {rows : List (List F)} : effK (some (p, .elt c e k rows, rn)) none K ⟨s, b, a⟩ = (p ∧ K ⟨s, b, fun x => if x = c then some (e, k, rows) else a x⟩) := propext ⟨fun h => h.2, fun h => ⟨rfl, h⟩⟩
theorem effJ_put {v : V} : effJ (some (p, .put v, rn)) dst K ⟨s, b, a⟩ = (p ∧ kput (fun v => K ⟨putS s dst v, b, a⟩) v) := rfl
theorem effJ_box {e : TypeId} {cs : List C} {d : Nat} : effJ (some (p, .box e cs, rn)) (some d) K ⟨s, b, a⟩ = (p ∧ b d = none ∧ K ⟨upd s d (.loc d 0), upd b d (some (e, cs)), a⟩) := rfl
theorem effJ_store {c : Nat} {e : TypeId} {cs : List C} : effJ (some (p, .store c e cs, rn)) none K ⟨s, b, a⟩ = (p ∧ K ⟨s, upd b c (some (e, cs)), a⟩) := propext ⟨fun h => h.2, fun h => ⟨rfl, h⟩⟩
theorem effJ_mk {e : TypeId} {k : Nat} {rows : List (List F)} : effJ (some (p, .mk e k rows, rn)) dst K ⟨s, b, a⟩ = (p ∧ K ⟨putS s dst (.c (.f (.l k rows))), b, a⟩) := rfl
theorem effJ_app {ko : Option Nat} {e : TypeId} {k : Nat} {rows : List (List F)} {d : Nat} : effJ (some (p, .app ko e k rows, rn)) (some d) K ⟨s, b, a⟩ = (p ∧ (a d = none ∨ ko = some d) ∧ K ⟨upd (fun t => killV ko (s t)) d (.c (.o d)), fun t => killB ko (b t), fun c => if c = d then some (e, k, rows) else if ko = some c then none else a c⟩) := rfl
theorem eff3_K : eff3 P T dst op K ⟨s, b, a⟩ = effK (effd P T ⟨s, b, a⟩ op) dst K ⟨s, b, a⟩ := rfl
theorem eff2_J : eff2 P T dst op K ⟨s, b, a⟩ = effJ (effd P T ⟨s, b, a⟩ op) dst K ⟨s, b, a⟩ := rfl
theorem RunU_2 {o : Oper} : RunU P T X w0 N o K ⟨s, b, a⟩ = gd2 (some (stops o.op)) (DOp P X w0 N o K) (eff3 P T o.dst o.op K) ⟨s, b, a⟩ := by
  rw [RunU_eq]
  cases stops o.op <;> rfl
def callB (x : Option (FuncId × List Operand)) (P : Program) (T : Nat → Option Ty) (bx : List Nat) (dst : Option Nat) (op : Op) (K : St → Prop) (S : St) : Prop := match x with
  | some (f, args) => ∃ xs res, CallC P f xs res ∧ vles (args.map (ev S)) xs ∧ Later K ⟨putS S.slots dst res, S.blks, S.arrs⟩
  | none => chk bx (rnOf P T S op) ∧ eff2 P T dst op K S
theorem callB_congr {x x' : Option (FuncId × List Operand)} {S : St} (h : x = x') : callB x P T bx dst op K S = callB x' P T bx dst op K S := h ▸ rfl
attribute [congr] callB_congr
theorem RunB_2 : RunB P T bx dst op K ⟨s, b, a⟩ = callB (calleeOf ⟨s, b, a⟩ op) P T bx dst op K ⟨s, b, a⟩ := rfl
theorem callB_s {f : FuncId} {args : List Operand} : callB (some (f, args)) P T bx dst op K ⟨s, b, a⟩ = ∃ xs res, CallC P f xs res ∧ vles (args.map (ev ⟨s, b, a⟩)) xs ∧ Later K ⟨putS s dst res, b, a⟩ := rfl
theorem callB_n : callB none P T bx dst op K ⟨s, b, a⟩ = (chk bx (rnOf P T ⟨s, b, a⟩ op) ∧ eff2 P T dst op K ⟨s, b, a⟩) := rfl
end
attribute [push_cast] rdsOf vcells
attribute [push_cast] effK_put effK_box effK_store effK_mk effK_app effJ_put effJ_box effJ_store effJ_mk effJ_app effK_elt eff3_K eff2_J RunU_2 RunB_2 callB_s callB_n
attribute [push_cast] exU_nil exU_cons stops exB_nil exB_cons gd2_t gd2_f SkipB_eq gdV cellEq kdC kd gOf calleeOf effd ev cv putS upd_same upd_miss St.of lkV_hit lkV_miss lkV_end lkB_hit lkB_miss lkB_end noArr_eq arrOf_hit arrOf_miss arrOf_end St.ofA lkA_zero lkA_succ lkR_hit lkR_miss lkR_end vcells pack cN rowsOf bin partsD fillD frz wsD wD chk bq1 bq0 kV_nil kB_nil kA_nil upL_nil upL_cons rnBL rnRL lookD W.toV
attribute [push_cast] Option.isSome_some Option.bind_some Option.map_some Option.getD_some List.getD_cons_zero List.getD_cons_succ List.getElem?_toArray List.getElem?_cons_zero List.getElem?_cons_succ List.map_cons List.map_nil List.drop_zero List.drop_succ_cons List.take_succ_cons List.take_zero List.length_cons List.length_nil List.length_map List.append_eq List.cons_append List.nil_append List.lookup_cons List.lookup_nil List.contains_cons List.contains_nil if_true if_false true_and and_true true_or or_true ne_eq not_true_eq_false not_false_eq_true Bool.not_true Bool.not_false Bool.false_eq_true Bool.or_false Bool.or_true Bool.false_or Bool.true_or

theorem kput_congr {K : V → Prop} {v v' : V} (h : v = v') : kput K v = kput K v' := h ▸ rfl
attribute [congr] kput_congr
theorem accK_i {ops : Array Oper} {R : St → Prop} {acc : List (Option Nat)} {S : St} (h1 : cmpE ops acc = true) (h2 : R S) : accK ops R acc S := ⟨h1, h2⟩
attribute [push_cast] exE_nil exE_cons locN
theorem bsd {q : Prop} [Decidable q] {p : Bool → Prop} (h1 : q → p true) (h2 : ¬ q → p false) : ∀ b, decide q = b → p b := fun b e => by
  cases b
  · exact h2 (of_decide_eq_false e)
  · exact h1 (of_decide_eq_true e)

theorem retL_x {T : Nat → Option Ty} {rs : List ResultVar} {res : V} {e : Exit} {S : St} (h : retL T rs res e S) : retL T rs res e S := h
/-- a step that turns a goal into another without a question -/
class Stp (G : Prop) (H : outParam Prop) : Prop where
  p : H → G
theorem stp {G H : Prop} [i : Stp G H] (h : H) : G := i.p h
section
variable {P : Program} {X : Fr} {w0 : World} {N : Nat} {S : St} {Q : Exit → St → Prop}
instance {i : Nat} {c : Code} : Stp (DW P X w0 N (.block i c) Q S) (DW P X w0 N c (inBlockD i Q) S) := ⟨dw_block⟩
instance : Stp (DW P X w0 N .skip Q S) (Q .normal S) := ⟨dw_skip⟩
instance {i : Nat} : Stp (DW P X w0 N (.exit i) Q S) (Q (.exit i) S) := ⟨dw_exit⟩
instance : Stp (DW P X w0 N .ret Q S) (Q .ret S) := ⟨dw_ret⟩
end
end Go.Dl
namespace Go.Proofs.Ytajokeimipllcaa
attribute [push_cast] tt1 tt2 tt3 tt4 tt5 tt6 tt7 tt8 tt9 tt10 tt11 tt12 tt13 tt14 tt15 tt16 tt17 tt18 tt19 tt21 tt22 tt23 tt24 tt25 tt26 tt27 tt28 tt29 tt30 tt31 tt32 tt33 tt34 tt35 tt36 tt37 tt38 tt39 tt40 tt41 tt42 tt43 tt44 tt45 tt46 tt47 tt48 tt49 tt50 tt51 tt52 tt53 tt54 tt55 tt56 tt57 tt58 tt59 tt60 tt61 tt62 tt63 tt64 tt65 tt66 tt67 tt68 tt69 tt73 tt74 tt75 tt76 tt77 tt78 tt79 tt80 tt81 tt82
open Go.Dl in
theorem rowS {X : Fr} {w0 : World} {N : Nat} {S : St} {Q : Exit → St → Prop} {id : Nat} {ops : Array Oper} (hN : okN N ops = true) (h : ∀ R : St → Prop, Kont R (Q .normal) → exU Try.prog (tab TT) X w0 N ops ops.toList R S) : DW Try.prog X w0 N (.region id ops false) Q S := dw_last_c fun R hR => dw_rowU hT hN (h R hR)
end Go.Proofs.Ytajokeimipllcaa
