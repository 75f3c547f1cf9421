/-
  The walk's rules with their side conditions filled in by themselves.
-/
import Derived.Test.YtajokeimipllcaaDt
import Derived.Test.YtajokeimipllcaaDv
import Derived.Test.YtajokeimipllcaaDx
import Derived.Test.YtajokeimipllcaaDu
import Derived.Test.YtajokeimipllcaaMp
set_option linter.unusedVariables false
namespace Go.Proofs.Ytajokeimipllcaa
open Go.Dl
/-- G follows from H (simp turns G alone) -/
structure To (G H : Prop) : Prop where
  p : H → G
/-- a goal whose binder is not to be opened with the step that made it -/
structure NoI (G : Prop) : Prop where
  p : G
theorem tr {G : Prop} : To G G := ⟨fun x => x⟩
theorem mixed : Try.prog.follows .mixedOrders = true := by rfl
/-- what an operation calls, and with what -/
def cF (o : Oper) : FuncId := match o.op with
  | .call c => match c.callee with
    | .value (.func f) => f
    | _ => 0
  | _ => 0
def cA (S : St) (o : Oper) : List V := match o.op with
  | .call c => c.args.toList.map (ev S)
  | _ => []
def cO (o : Oper) : Bool := match o.op with
  | .call c => match c.callee with
    | .value (.func _) => true
    | _ => false
  | _ => false
theorem cO_ok {o : Oper} (h : cO o = true) : ∃ c, o.op = .call c ∧ c.callee = .value (.func (cF o)) ∧ ∀ S, cA S o = c.args.toList.map (ev S) := by
  unfold cO at h
  split at h
  · rename_i c hc
    split at h
    · rename_i f hf
      exact ⟨c, hc, by simp [cF, hc, hf], fun S => by simp [cA, hc]⟩
    · cases h
  · cases h
section
variable {G H : Prop} {X : Fr} {w0 : World} {N : Nat} {S : St} {Q : Exit → St → Prop} {R : St → Prop} {ops : Array Oper} {id : Nat} {o : Oper} {K : St → Prop} {f : FuncId}
theorem tdw {c : Code} (h : To (DW Try.prog X w0 N c Q S) H) : To (DW Try.prog X w0 N c Q S) H := h
theorem tdy {I : Nat → Prop} {J : YJ} {k : Option Nat} {QY : Exit → Option Nat → St → Prop} {c : Code} (h : To (DY Try.prog I J N c QY k S) H) : To (DY Try.prog I J N c QY k S) H := h
theorem ne (q : H) (e : To (G) H := by first
  | (with_reducible first | apply tdw | apply tdy); first | (simp only [hb]; exact tr) | exact tr
  | (simp only [push_cast, seval, *]; exact tr)
  | exact tr) : G := e.p q
theorem lat (q : H) (e : To (K S) H := by first | (simp only [push_cast, seval, *]; exact tr) | exact tr) : Later K S := e.p q
theorem lat_n (e : To (K S) H) : H → Later K S := fun q => e.p q
theorem cal {res : V} (hc : CallC Try.prog (cF o) (cA S o) res) (q : H) (ho : cO o = true := by rfl) (ha : allV (cA S o) = true := by rfl) (e : To (K ⟨putS S.slots o.dst res, S.blks, S.arrs⟩) H := by first | (simp only [push_cast, seval, *]; exact tr) | exact tr) : DOp Try.prog X w0 N o K S := by
  obtain ⟨c, h1, h2, h3⟩ := cO_ok ho
  rw [h3] at hc ha
  exact dop_call_s h1 h2 hc ha (e.p q)
theorem cav {c : Call} {vs : List V} {res : V} (hc : CallC Try.prog f vs res) (q : H) (hop : o.op = .call c := by rfl) (hf : calleeD S c = some (f, vs) := by rfl) (ha : allV vs = true := by rfl) (e : To (K ⟨putS S.slots o.dst res, S.blks, S.arrs⟩) H := by first | (simp only [push_cast, seval, *]; exact tr) | exact tr) : DOp Try.prog X w0 N o K S :=
  dop_call_v hop hf hc (vles_self ha) (e.p q)
theorem cad {ys : List V} {res : V} {s : V → St} (hc : CallC Try.prog f ys res) (q : H) (ha : allV ys = true := by rfl) (e : To (K (s res)) H := by first | (simp only [push_cast, seval, *]; exact tr) | exact tr) : ∃ xs r, CallC Try.prog f xs r ∧ vles ys xs ∧ Later K (s r) :=
  ⟨_, _, hc, vles_self ha, e.p q⟩
theorem cld {c : Call} {ys : List V} {r : Value} (hc : CallC Try.prog f ys (.c (.f (.s r)))) (q : H) (hop : o.op = .call c := by rfl) (hf : c.callee = .value (.func f) := by rfl) (ha : vlesL S.arrs (c.args.toList.map (ev S)) ys := by simp [vlesL, vleL, cleL, ev, vle, cle, fle, upd, lkA_zero, lkA_succ, lkR, noArr] <;> fail)
    (e : To (K ⟨putS S.slots o.dst (.c (.f (.s r))), S.blks, S.arrs⟩) H := by first | (simp only [push_cast, seval, *]; exact tr) | exact tr) : DOp Try.prog X w0 N o K S := dop_lend hop hf hc ha (e.p q)
theorem cM (bm am : List (Nat × Nat)) {c : Call} {vs : List V} {args : List V} {bl : BL} {al : RL} {res : V} {bl' : BL} {al' : RL} (hc : CallM Try.prog f args bl al res bl' al') (q : H) (hop : o.op = .call c := by rfl) (hf : calleeD S c = some (f, vs) := by rfl)
    (h1 : onceP bm = true := by rfl) (h2 : onceP am = true := by rfl) (hcB : covers bm bl' = true := by rfl) (hcA : covers am al' = true := by rfl) (ha : mvs bm am vs args := by simp <;> fail) (hbl : entB bm am S.blks bl := by simp <;> fail) (hal : entA am S.arrs al := by simp <;> fail)
    (hfB : freshL (bl.map (·.1)) S.blks bm := by simp <;> fail) (hfA : freshL (al.map (·.1)) S.arrs am := by simp <;> fail)
    (e : To (K ⟨putS (fun t => kV (am.map (·.2)) (S.slots t)) o.dst (rnV bm am res), upL (fun t => kB (am.map (·.2)) (S.blks t)) (rnBL bm am bl'), upL (kA (am.map (·.2)) S.arrs) (rnRL am al')⟩) H := by first | (simp only [push_cast, seval, *]; exact tr) | exact tr) : DOp Try.prog X w0 N o K S :=
  dop_callM hop hf bm am hc h1 h2 hcB hcA ha hbl hal hfB hfA (e.p q)
/-! rows -/
theorem rdb (bx : List Nat) (q : H) (hN : okN N ops = true := by decide) (hok : okD ops = true := by decide +kernel) (hbx : boxes ops = bx := by rfl) (e : To (exB Try.prog (tab TT) ops bx ops.toList R S) H := by first | (simp only [push_cast, seval, *]; exact tr) | exact tr) : DW Try.prog X w0 N (.region id ops true) (thenD R Q) S :=
  dw_rowd bx hT mixed hN hok hbx (e.p q)
theorem rex (bx : List Nat) (q : H) (hN : okN N ops = true := by decide) (hok : okDz true ops = true := by decide +kernel) (hbx : boxes ops = bx := by rfl) (e : To (exE Try.prog (tab TT) ops bx ops.toList [] (accK ops R) S) H := by first | (simp only [push_cast, seval, *]; exact tr) | exact tr) : DW Try.prog X w0 N (.region id ops true) (thenD R Q) S :=
  dw_rowe bx hT mixed hN hok hbx (e.p q)
theorem rtl (n : Nat) (bx : List Nat) (q : H) (hN : okN N ops = true := by decide) (hok : okD ops = true := by decide +kernel) (hn : n < ops.size := by decide) (ht : tailOk ops n = true := by decide +kernel) (hbx : boxes ops = bx := by rfl)
    (e : To (exB Try.prog (tab TT) ops bx (ops.toList.take n) (fun S' => Later (exU Try.prog (tab TT) X w0 N ops (ops.toList.drop n) R) S') S) H := by first | (simp only [push_cast, seval, *]; exact tr) | exact tr) : DW Try.prog X w0 N (.region id ops true) (thenD R Q) S := dw_tail n bx hT mixed hN hok hn ht hbx (e.p q)
theorem rtf (n : Nat) (fl bx : List Nat) (q : H) (hX : X.rd = none := by rfl) (hN : okN N ops = true := by decide) (hok : okD ops = true := by decide +kernel) (hn : n < ops.size := by decide) (hsel : Region.noSelect ops = true := by decide +kernel) (hfl : (fl.all fun i => floatOk ops n i) = true := by decide +kernel) (ht : tailOkF ops n fl = true := by decide +kernel) (hbx : boxes ops = bx := by rfl)
    (e : To (exB Try.prog (tab TT) ops bx (ops.toList.take n) (fun S' => Later (exU Try.prog (tab TT) X w0 N ops (ops.toList.drop n) R) S') S) H := by first | (simp only [push_cast, seval, *]; exact tr) | exact tr) : DW Try.prog X w0 N (.region id ops true) (thenD R Q) S := dw_tailF n fl bx hX hT mixed hN hok hn hsel hfl ht hbx (e.p q)
theorem rowH {W : (St → Prop) → Prop} (hN : okN N ops = true) (e : ∀ R : St → Prop, To (exU Try.prog (tab TT) X w0 N ops ops.toList R S) (W R)) (h : ∀ R : St → Prop, Kont R (Q .normal) → W R) : DW Try.prog X w0 N (.region id ops false) Q S :=
  rowS hN fun R hR => (e R).p (h R hR)
/-! one step, ahead of what a function says itself, and behind it -/
theorem retL_n {T : Nat → Option Ty} {rs : List ResultVar} {res : V} {e : Exit} (h : To (retL T rs res e S) H) : H → retL T rs res e S := h.p
/-- a branch whose condition is not known -/
structure Cnd (b : Bool) (A B : Prop) : Prop where
  t : b = true → A
  f : b = false → B
theorem cnd {c : Operand} {x y : Code} {b : Bool} (hc : ev S c = .c (.f (.s (.bool b)))) (h : Cnd b (DW Try.prog X w0 N x Q S) (DW Try.prog X w0 N y Q S)) : DW Try.prog X w0 N (.cond c x y) Q S := dw_cond hc h.t h.f
theorem s1 (q : H) (h : H → G := by first
  | with_reducible exact NoI.mk
  | exact kont ‹_›
  | exact accK_i (by decide +kernel)
  | (intro q; dsimp only [thenD, inBlockD, rangeQ, forQ]; exact q)
  | (intro q; with_reducible refine retL_x ?_; exact To.p (by simp only [push_cast, seval]; exact tr) q)) : G := h q
theorem s2 (q : H) (h : H → G := by first
  | (intro q; with_reducible refine And.intro ?_ (NoI.p q); clear q; first | omega | (constructor <;> omega) | (unfold maxLen; omega) | (simp only [List.length_append, List.length_map, List.length_cons, List.length_nil, List.length_take, List.length_drop, maxLen]; omega) | (unfold maxLen; simp <;> omega))
  | with_reducible exact dw_seq_c
  | with_reducible exact stp
  | exact rowH (by decide) (by intro R; first | (simp only [push_cast, seval, *]; exact tr) | exact tr)
  | exact dw_cond_t rfl
  | exact dw_cond_f rfl
  | exact cnd rfl) : G := h q
theorem spl {A B : Prop} (a : A) (b : B) (h : A → B → G := by with_reducible first | exact bsd | exact bsplit | exact Cnd.mk) : G := h a b
section
variable {I : Nat → Prop} {J : YJ} {k : Option Nat} {RY : Option Nat → St → Prop} {QY : Exit → Option Nat → St → Prop}
theorem rowYH (hJ : JLaw J) (hN : okN N ops = true) (e : To (exY Try.prog (tab TT) I J N ops ops.toList RY k S) H) : NoI H → DY Try.prog I J N (.region id ops false) (thenY RY QY) k S := fun q => dy_rowY hJ hT hN (e.p q.p)
theorem rowYL {W : (Option Nat → St → Prop) → Prop} (hJ : JLaw J) (hN : okN N ops = true) (e : ∀ R, To (exY Try.prog (tab TT) I J N ops ops.toList R k S) (W R)) : (∀ R, KontY R (QY .normal) → W R) → DY Try.prog I J N (.region id ops false) QY k S := fun h => dy_last_c fun R hR => dy_rowY hJ hT hN ((e R).p (h R hR))
theorem cndY {c : Operand} {x y : Code} {b : Bool} (hc : ev S c = .c (.f (.s (.bool b)))) (h : Cnd b (DY Try.prog I J N x QY k S) (DY Try.prog I J N y QY k S)) : DY Try.prog I J N (.cond c x y) QY k S := dy_cond hc h.t h.f
theorem t1 (q : H) (h : H → G := by first
  | with_reducible exact NoI.mk
  | exact kontY ‹_›
  | (intro q; dsimp only [thenY, inBlockY, rangeY, noGoY]; exact q)) : G := h q
theorem t2 (q : H) (h : H → G := by first
  | (intro q; with_reducible refine And.intro ?_ (NoI.p q); clear q; first | omega | (constructor <;> omega) | (unfold maxLen; omega) | (simp only [List.length_append, List.length_map, List.length_cons, List.length_nil, List.length_take, List.length_drop, maxLen]; omega) | (unfold maxLen; simp <;> omega))
  | with_reducible exact dy_seq_c
  | with_reducible exact dy_block
  | with_reducible exact dy_skip
  | with_reducible exact dy_exit
  | with_reducible exact dy_ret
  | exact rowYH ‹_› (by decide) (by first | (simp only [push_cast, seval, *]; exact tr) | exact tr)
  | exact dy_cond_t rfl
  | exact dy_cond_f rfl
  | exact cndY rfl
  | exact rowYL ‹_› (by decide) (by intro R; first | (simp only [push_cast, seval, *]; exact tr) | exact tr)) : G := h q
theorem yld {c : Call} {x : Operand} {l n : Nat} {el : Nat → Option (List V)} {K : Option Nat → St → Prop} {H1 H2 : Prop} (hY : YLaw Try.prog I J l el) (hel : el n = some (c.args.toList.map (ev S))) (q1 : H1) (q2 : H2) (hop : o.op = .call c := by rfl) (hc : c.callee = .value x := by rfl) (hx : ev S x = .c (.f (.s (.func (.yield l) #[] #[]))) := by rfl) (hk : k = some n := by rfl) (ha : allV (c.args.toList.map (ev S)) = true := by rfl)
    (e1 : To (K (some (n + 1)) ⟨putS S.slots o.dst (.c (.f (.s (.bool true)))), S.blks, S.arrs⟩) H1 := by first | (simp only [push_cast, seval, *]; exact tr) | exact tr) (e0 : To (K none ⟨putS S.slots o.dst (.c (.f (.s (.bool false)))), S.blks, S.arrs⟩) H2 := by first | (simp only [push_cast, seval, *]; exact tr) | exact tr) : DOpY Try.prog I J N o K k S :=
  dopY_yield_s hY hop hc hx hk hel ha (e1.p q1) (e0.p q2)
end
/-! weaker states, loops -/
theorem wnil (t a : Nat) (e : TypeId) (k : Nat) {c : Code} (q : DW Try.prog X w0 N c Q ⟨upd S.slots t (.c (.o a)), S.blks, fun c => if c = a then some (e, k, []) else S.arrs c⟩) (h : S.slots t = .c (.f (.s (.slice none 0 0))) := by rfl) (ha : S.arrs a = none := by rfl) (hem : e < 1000000 := by decide) : DW Try.prog X w0 N c Q S := dw_weak (weak_nil t a e k h ha hem) q
theorem fzx (t : Nat) {e : TypeId} {cs : List C} {r : List F} {c : Code} (q : DW Try.prog X w0 N c Q ⟨fun j => fzV t r (S.slots j), fun j => if j = t then none else fzB t (S.blks j), S.arrs⟩) (h : S.blks t = some (e, cs) := by rfl) (hr : frz cs = some r := by rfl) (hX : (X.B0.all fun k => k != t) = true := by rfl) : DW Try.prog X w0 N c Q S := dw_weak (weak_fzB h hr hX) q
theorem fnx {A B : Prop} {ι : Type} {J W : ι → Prop} (x : ι) (hA : A) (hJ : J x) (hW : W x := by (refine weak_ofA rfl ?_ ?_ ?_ <;> simp <;> simp [*] <;> fail)) (hB : B := by simp only [push_cast, seval, *] <;> fail) : A ∧ B ∧ ∃ x', J x' ∧ W x' := ⟨hA, hB, x, hJ, hW⟩
theorem rnx {B : Prop} {ι : Type} {J W : ι → Prop} (x : ι) (hJ : J x) (hW : W x := by (refine weak_ofA rfl ?_ ?_ ?_ <;> simp <;> simp [*] <;> fail)) (hB : B := by simp only [push_cast, seval, *] <;> fail) : B ∧ ∃ x', J x' ∧ W x' := ⟨hB, x, hJ, hW⟩
section
variable {ι : Type} {r1 r2 tI tN tC t2 ta tb : Nat} {ty ty2 y1 y2 y3 : TypeId} {p1 p2 p3 : String} {a1 a2 a3 : Array Edge} {B C : Code}
theorem rgx (n : Nat) (I : Nat → ι → St) (J : Nat → ι → Prop) (x0 : ι) (hJ : J 0 x0)
    (hB : ∀ k x, J k x → k < n → DW Try.prog X w0 N B (rangeQ id tI t2 .i64 k X (fun S' => ∃ x', J (k + 1) x' ∧ Weak X S' (I (k + 1) x')) Q) ⟨upd (I k x).slots tC (.c (.f (.s (.bool true)))), (I k x).blks, (I k x).arrs⟩)
    (hE : ∀ x, J n x → Q .normal ⟨upd (I n x).slots tC (.c (.f (.s (.bool false)))), (I n x).blks, (I n x).arrs⟩)
    (hn : n < 9223372036854775807 := by omega) (hN : tC < N ∧ t2 < N ∧ tI < N := by decide) (hI : ∀ k x, (I k x).slots tI = .c (.f (.s (.int .i64 k))) ∧ (I k x).slots tN = .c (.f (.s (.int .i64 n))) := by intro k x; exact ⟨by rfl, by rfl⟩) (h0 : Weak X S (I 0 x0) := by (refine weak_ofA rfl ?_ ?_ ?_ <;> simp <;> simp [*] <;> fail)) :
    DW Try.prog X w0 N (.block id (.loop (.seq (.region r1 #[⟨some tC, .binOp .lss ty (.tmp tI) (.tmp tN) ty2, y1, p1, a1, none⟩] false) (.seq (.cond (.tmp tC) .skip (.exit id)) (.seq B (.region r2 #[⟨some t2, .binOp .add ty (.tmp tI) (.const (.int .i64 1)) ty2, y2, p2, a2, none⟩, ⟨some tI, .move (.tmp t2), y3, p3, a3, none⟩] false)))))) Q S :=
  dw_range n I J x0 hn hT hN hI h0 hJ hB hE
theorem frx (n : Nat) (I : Nat → ι → St) (J : Nat → ι → Prop) (x0 : ι) (hJ : J 0 x0)
    (hB : ∀ k x, J k x → k ≤ n → ∀ R, Kont R (DW Try.prog X w0 N B (forQ id tI ta tb n k (fun S' => ∃ x', J (k + 1) x' ∧ Weak X S' (I (k + 1) x')) Q)) → DW Try.prog X w0 N C (thenD R (forQ id tI ta tb n k (fun S' => ∃ x', J (k + 1) x' ∧ Weak X S' (I (k + 1) x')) Q)) (I k x))
    (hn : n < 9223372036854775807 := by omega) (hN : ta < N ∧ tb < N ∧ tI < N := by decide) (h0 : Weak X S (I 0 x0) := by (refine weak_ofA rfl ?_ ?_ ?_ <;> simp <;> simp [*] <;> fail)) :
    DW Try.prog X w0 N (.block id (.loop (.seq C (.seq B (.region r2 #[⟨some ta, .move (.tmp tI), y1, p1, a1, none⟩, ⟨some tb, .binOp .add ty (.tmp ta) (.const (.int .i64 1)) ty2, y2, p2, a2, none⟩, ⟨some tI, .assign (.tmp tb), y3, p3, a3, none⟩] false))))) Q S :=
  dw_for n I J x0 hn hT hN h0 hJ hB
end
/-! the first and the last line -/
theorem fmx {T : Nat → Option Ty} {rs : List ResultVar} {res : V} {bl : BL} {al : RL} {e : Exit} (am : List (Nat × Nat)) (h : RetM T rs res bl al am S := by first | (simp [*] <;> fail) | (simp only [RetM, onceA, mkAL, resV, res1, parts, part1, push_cast, seval]; simp [*] <;> fail)) (he : e = .ret ∨ e = .normal := by first | exact .inl rfl | exact .inr rfl) : retM T rs res bl al e S := by
  rcases he with rfl | rfl
  · exact retM_r am h
  · exact retM_n am h
theorem enx {fn : Func} {c : Code} {args : List V} {res : V} (rs : List ResultVar) (hf : Try.prog.funcs[f]? = some fn) (h : ∀ I0 w0, DW Try.prog (Fr.pure I0) w0 fn.ntmps c (retL (tab TT) rs res) ⟨fun t => lkA t args, fun t => lkB t [], noArr⟩) (hb : fn.body = some c := by rfl) (hn : (fn.name == "runtime.NumGoroutine") = false := by decide) (ha : Nat.ble args.length fn.ntmps = true := by rfl) (hrs : fn.results.toList = rs := by rfl) : CallC Try.prog f args res :=
  call_ofL hT rs hf hb hn (Nat.le_of_ble_eq_true ha) hrs h
theorem emx {fn : Func} {c : Code} {args : List V} {bl : BL} {al : RL} {res : V} {bl' : BL} {al' : RL} (rs : List ResultVar) (hf : Try.prog.funcs[f]? = some fn) (h : ∀ XX I0 G w0, DW Try.prog ⟨XX, I0, bl.map (·.1), G, none, false⟩ w0 fn.ntmps c (retM (tab TT) rs res bl' al') ⟨fun t => lkA t args, fun t => lkB t bl, fun a => lkR a al⟩)
    (hb : fn.body = some c := by rfl) (hn : (fn.name == "runtime.NumGoroutine") = false := by decide) (ha : Nat.ble args.length fn.ntmps = true := by rfl) (hrs : fn.results.toList = rs := by rfl) (hnm : ((bl.map (·.1)).all fun t => (lkB t bl').isSome) = true := by rfl) : CallM Try.prog f args bl al res bl' al' :=
  callM_of hT rs hf hb hn (Nat.le_of_ble_eq_true ha) hrs hnm h
theorem gz (q : H) (e : To G H := by first | (simp only [List.take_zero, List.drop_zero, List.take_length, List.drop_length]; exact tr) | exact tr) : G := e.p q
end
end Go.Proofs.Ytajokeimipllcaa
