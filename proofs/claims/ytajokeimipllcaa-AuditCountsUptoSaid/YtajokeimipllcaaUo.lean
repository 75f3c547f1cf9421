/-
  Audit: arguments opened as data, the law AuditCounts lifted.
-/
import Derived.Test.YtajokeimipllcaaRows
import Derived.Test.YtajokeimipllcaaUf
import Derived.Test.YtajokeimipllcaaLift
import Derived.ProofKit
import Derived.OpenShut
import Derived.JoinedCond
import Derived.Lib.SmallJoins
import Derived.Deep.Slices
set_option linter.unusedSimpArgs false
set_option linter.unusedVariables false
set_option maxRecDepth 100000
namespace Go.Proofs.Ytajokeimipllcaa
open Go.Dl Go.ChangeShapes Go.WideShapes Go.ChangeAt Go.RowKit Go.Joins Go.Deep Go.Ed
def I64 (x : Int) : Prop := -9223372036854775808 ≤ x ∧ x ≤ 9223372036854775807
section
variable {H : Type} {enc : TypeId × Value → H} {P : Program} {w : World} {B : Nat}
theorem bulk_part {d : DataW H} : ∀ {l : List (DataW H)}, d ∈ l → Rows.uptoBulk d ≤ Rows.uptoBulkAll l
  | x :: r, h => by
    simp only [Rows.uptoBulkAll]
    rcases List.mem_cons.1 h with e | e
    · subst e; omega
    · have := bulk_part e; omega
theorem bulk_one (d : DataW H) : 1 ≤ Rows.uptoBulk d := by
  cases d with
  | lit l => cases l <;> simp [Rows.uptoBulk]
  | _ => simp [Rows.uptoBulk]
theorem bulk_len : ∀ l : List (DataW H), l.length ≤ Rows.uptoBulkAll l
  | [] => by simp [Rows.uptoBulkAll]
  | x :: r => by have := bulk_one x; have := bulk_len r; simp only [Rows.uptoBulkAll, List.length_cons]; omega
theorem opn_fields {t : TypeId} {fs : Array Field} {k fuel : Nat} {cs : List Value} {x : DataW H × List MemPlace} (ht : P.underlying t = some (.struct fs)) (ce : P.cellsOf t = k)
    (h : DataW.trod enc P w 0 (fun _ => true) true fuel t cs = some x) (hb : Rows.uptoBulk x.1 ≤ B) :
    cs.length = k ∧ ∀ (j : Nat) (f : Field), fs[j]? = some f → ∃ fuel' y, DataW.trod enc P w 0 (fun _ => true) true fuel' f.type ((cs.drop f.offset).take (P.cellsOf f.type)) = some y ∧ Rows.uptoBulk y.1 ≤ B := by
  obtain ⟨xs, k', hk, hxy, hl, hxl, hf⟩ := DataW.trod_struct ht h
  refine ⟨hl.trans ce, fun j f hjf => ?_⟩
  have hj : j < xs.length := by
    rw [hxl]
    rcases Nat.lt_or_ge j fs.size with h | h
    · simpa using h
    · rw [Array.getElem?_eq_none h] at hjf; cases hjf
  subst hxy
  refine ⟨_, _, (hf j f hjf).trans (List.getElem?_eq_getElem hj), ?_⟩
  have h1 := bulk_part (d := (xs[j]).1) (l := xs.map (·.1)) (List.mem_map.2 ⟨_, List.getElem_mem hj, rfl⟩)
  simp only [Rows.uptoBulk] at hb
  omega
theorem opn_slice {α : Type} {encA : α → List F} {t e : TypeId} {k fuel : Nat} {cs : List Value} {x : DataW H × List MemPlace} {Good : α → Prop} (ht : P.underlying t = some (.slice e)) (ce : P.cellsOf e = k) (hk : 0 < k) (hE : ∀ x, (encA x).length = k)
    (hsub : ∀ (fuel : Nat) (cs : List Value) (y : DataW H × List MemPlace), DataW.trod enc P w 0 (fun _ => true) true fuel e cs = some y → Rows.uptoBulk y.1 ≤ B → ∃ x : α, Good x ∧ RepFs w (fun b => b < w.heap.size) (encA x) cs)
    (h : DataW.trod enc P w 0 (fun _ => true) true fuel t cs = some x) (hb : Rows.uptoBulk x.1 ≤ B) :
    ∃ (l : List α) (u : Value), cs = [u] ∧ RepF w (fun b => b < w.heap.size) (.l k (l.map encA)) u ∧ l.length ≤ B ∧ ∀ x ∈ l, Good x := by
  rcases open_slice ht h with ⟨rfl, _⟩ | ⟨a, len, cap, m, n, D, Pl, rfl, hbk, hl, hm, hmm, rfl, hx⟩
  · exact ⟨[], _, rfl, .e, Nat.zero_le _, fun x hx => (by cases hx)⟩
  have hmc : m = cap := by simpa using hmm
  have hbl := bulk_len ((List.range len).map D)
  rw [List.length_map, List.length_range] at hbl
  simp only [Rows.uptoBulk] at hb
  have key : ∀ j : Fin len, ∃ x : α, Good x ∧ ∃ cs', w.cells? 0 (a.add (j.1 * k)) k = some cs' ∧ RepFs w (fun b => b < w.heap.size) (encA x) cs' := fun j => by
    obtain ⟨cs', h1, h2⟩ := hx j.1 (by have := j.2; omega)
    rw [ce] at h1
    have hd := bulk_part (d := D j.1) (l := (List.range len).map D) (List.mem_map.2 ⟨_, List.mem_range.2 j.2, rfl⟩)
    obtain ⟨x, hg, hr⟩ := hsub _ _ _ h2 (by show Rows.uptoBulk (D j.1) ≤ B; omega)
    exact ⟨x, hg, cs', h1, hr⟩
  let l : List α := List.ofFn fun j => Classical.choose (key j)
  have hll : l.length = len := by simp [l]
  refine ⟨l, _, rfl, ?_, by omega, fun x hx => ?_⟩
  · rcases Nat.eq_zero_or_pos len with h0 | h0
    · subst h0
      have : l = [] := List.eq_nil_of_length_eq_zero hll
      rw [this]; exact .e
    · have hcell : ∀ (i : Nat) (hi : i < l.length) (j : Nat) (q : F), (encA l[i])[j]? = some q → ∃ u, w.cell? (a.add (i * k + j)) = some u ∧ RepF w (fun b => b < w.heap.size) q u := fun i hi j q hq => by
        have hs := Classical.choose_spec (key ⟨i, by omega⟩)
        have e : l[i] = Classical.choose (key ⟨i, by omega⟩) := by simp [l]
        rw [e] at hq
        obtain ⟨_, cs', h1, h2⟩ := hs
        obtain ⟨_, hlen, hcell⟩ := World.cells?_some h1
        have hj : j < k := by
          rcases Nat.lt_or_ge j k with h | h
          · exact h
          · rw [List.getElem?_eq_none (by rw [hE]; exact h)] at hq; cases hq
        have := hcell j hj
        rw [add_of_add] at this
        refine ⟨_, this.trans (List.getElem?_eq_getElem (by omega)), h2.2 j q _ hq (List.getElem?_eq_getElem (by omega))⟩
      have hflat : ∀ (j : Nat) (q : F), ((l.map encA).flatten)[j]? = some q → ∃ u, w.cell? (a.add j) = some u ∧ RepF w (fun b => b < w.heap.size) q u := fun j q hq => by
        have hlf : ((l.map encA).flatten).length = l.length * k := by
          rw [List.length_flatten, List.map_map]
          have : (List.length ∘ encA) = fun _ => k := funext hE
          rw [this, List.map_const', List.sum_replicate_nat]
        have hj : j < l.length * k := by
          rcases Nat.lt_or_ge j (l.length * k) with h | h
          · exact h
          · rw [List.getElem?_eq_none (by omega)] at hq; cases hq
        have hi : j / k < l.length := Nat.div_lt_of_lt_mul (by rw [Nat.mul_comm]; exact hj)
        have hr : j % k < k := Nat.mod_lt _ hk
        have hjj : j / k * k + j % k = j := by rw [Nat.mul_comm]; exact Nat.div_add_mod j k
        have hfl : ∀ (l : List α) (i : Nat) (hi : i < l.length) (r : Nat), r < k → ((l.map encA).flatten)[i * k + r]? = (encA l[i])[r]? := by
          intro l
          induction l with
          | nil => intro i hi; simp at hi
          | cons y ys ih =>
            intro i hi r hr
            rw [List.map_cons, List.flatten_cons]
            cases i with
            | zero => rw [Nat.zero_mul, Nat.zero_add, List.getElem?_append_left (by rw [hE]; exact hr)]; rfl
            | succ i =>
              rw [List.getElem?_append_right (by rw [hE, Nat.succ_mul]; omega), hE, show (i + 1) * k + r - k = i * k + r by rw [Nat.succ_mul]; omega]
              exact ih i (by simpa using hi) r hr
        rw [← hjj, hfl l _ hi _ hr] at hq
        obtain ⟨u, h1, h2⟩ := hcell _ hi _ _ hq
        rw [hjj] at h1
        exact ⟨u, h1, h2⟩
      refine .l (fun j => (w.cell? (a.add j)).getD undef) (by simpa using hll) h0 (fun r hr => by obtain ⟨x, _, rfl⟩ := List.mem_map.1 hr; exact hE x) hl ?_ (fun j q hq => ?_) fun j q hq => ?_
      · have hne : (encA (l[0]'(by omega))).length = k := hE _
        obtain ⟨u, h1, _⟩ := hcell 0 (by omega) 0 _ (List.getElem?_eq_getElem (by omega))
        have := block_lt_of_cell h1
        rwa [block_of_add] at this
      · obtain ⟨u, h1, _⟩ := hflat j q hq
        rw [h1]; rfl
      · obtain ⟨u, h1, h2⟩ := hflat j q hq
        rw [h1]; exact h2
  · obtain ⟨j, rfl⟩ := List.mem_ofFn.1 hx
    exact (Classical.choose_spec (key j)).1
theorem opn_str {t : TypeId} {fuel : Nat} {cs : List Value} {x : DataW H × List MemPlace} (ht : P.underlying t = some .string) (h : DataW.trod enc P w 0 (fun _ => true) true fuel t cs = some x) (hb : Rows.uptoBulk x.1 ≤ B) : ∃ s : ByteArray, cs = [.string s] ∧ s.size ≤ B := by
  obtain ⟨s, rfl, rfl, _⟩ := DataW.trod_string ht h
  refine ⟨s, rfl, ?_⟩
  simp only [Rows.uptoBulk, Array.length_toList] at hb
  have : s.data.size = s.size := rfl
  omega
theorem opn_int {t : TypeId} {fuel : Nat} {cs : List Value} {x : DataW H × List MemPlace} (ht : P.underlying t = some (.int .i64)) (h : DataW.trod enc P w 0 (fun _ => true) true fuel t cs = some x) : ∃ n : Int, cs = [.int .i64 n] ∧ I64 n := by
  obtain ⟨n, rfl, _, hw⟩ := DataW.trod_int ht h
  exact ⟨n, rfl, by simpa [Lit.wf, IntKind.min, IntKind.max, IntKind.signed, IntKind.bits, I64] using hw⟩
theorem opn_bool {t : TypeId} {fuel : Nat} {cs : List Value} {x : DataW H × List MemPlace} (ht : P.underlying t = some .bool) (h : DataW.trod enc P w 0 (fun _ => true) true fuel t cs = some x) : ∃ n : Bool, cs = [.bool n] := by
  obtain ⟨n, rfl, _⟩ := DataW.trod_bool ht h
  exact ⟨n, rfl⟩
theorem repFs_flat {I : Nat → Prop} {xs : List F} {cs : List Value} (e : xs = cs.map F.s) (h : (cs.all Value.oneCell') = true) : RepFs w I xs cs := e ▸ ⟨by simp, fun j x u hx hu => by
  rw [List.getElem?_map, hu] at hx
  cases hx
  exact .s (List.all_eq_true.1 h u (List.mem_of_getElem? hu))⟩
end
theorem co_string : Try.prog.cellsOf 9 = 1 := by kernel_rfl
theorem co_int : Try.prog.cellsOf 3 = 1 := by kernel_rfl
theorem co_int64 : Try.prog.cellsOf 2 = 1 := by kernel_rfl
theorem co_Errno : Try.prog.cellsOf 32 = 1 := by kernel_rfl
theorem co_Find : Try.prog.cellsOf 31 = 3 := by kernel_rfl
theorem co_Event : Try.prog.cellsOf 37 = 4 := by kernel_rfl
theorem co_Told : Try.prog.cellsOf 39 = 5 := by kernel_rfl
theorem co_Tolds : Try.prog.cellsOf 33 = 1 := by kernel_rfl
theorem co_Otc : Try.prog.cellsOf 35 = 2 := by kernel_rfl
section
variable {H : Type} {enc : TypeId × Value → H} {w : World} {fuel : Nat} {cs : List Value} {y : DataW H × List MemPlace} {B : Nat}
theorem opn_Find (h : DataW.trod enc Try.prog w 0 (fun _ => true) true fuel 31 cs = some y) (hb : Rows.uptoBulk y.1 ≤ B) : ∃ x : Fnd, True ∧ RepFs w (fun b => b < w.heap.size) (encFn x) cs := by
  obtain ⟨hl, hf⟩ := opn_fields Try.underlying31 co_Find h hb
  match cs, hl with
  | [c0, c1, c2], _ =>
    obtain ⟨_, _, g0, _⟩ := hf 0 _ rfl
    obtain ⟨_, _, g1, _⟩ := hf 1 _ rfl
    obtain ⟨_, _, g2, _⟩ := hf 2 _ rfl
    simp [co_int] at g0 g1 g2
    obtain ⟨n0, r0, -⟩ := opn_int Try.underlying3 g0
    obtain ⟨n1, r1, -⟩ := opn_int Try.underlying3 g1
    obtain ⟨n2, r2, -⟩ := opn_int Try.underlying3 g2
    simp only [List.cons.injEq, and_true] at r0 r1 r2
    subst r0 r1 r2
    exact ⟨⟨n0, n1, n2⟩, trivial, repFs_flat rfl rfl⟩
theorem opn_Event (h : DataW.trod enc Try.prog w 0 (fun _ => true) true fuel 37 cs = some y) (hb : Rows.uptoBulk y.1 ≤ B) : ∃ (k p : Int) (nm : ByteArray) (num : Int), cs = [.int .i64 k, .int .i64 p, .string nm, .int .i64 num] := by
  obtain ⟨hl, hf⟩ := opn_fields Try.underlying37 co_Event h hb
  match cs, hl with
  | [c0, c1, c2, c3], _ =>
    obtain ⟨_, _, g0, _⟩ := hf 0 _ rfl
    obtain ⟨_, _, g1, _⟩ := hf 1 _ rfl
    obtain ⟨_, _, g2, b2⟩ := hf 2 _ rfl
    obtain ⟨_, _, g3, _⟩ := hf 3 _ rfl
    simp [co_int, co_int64, co_string] at g0 g1 g2 g3
    obtain ⟨n0, r0, -⟩ := opn_int Try.underlying3 g0
    obtain ⟨n1, r1, -⟩ := opn_int Try.underlying3 g1
    obtain ⟨n2, r2, -⟩ := opn_str Try.underlying9 g2 b2
    obtain ⟨n3, r3, -⟩ := opn_int Try.underlying2 g3
    simp only [List.cons.injEq, and_true] at r0 r1 r2 r3
    subst r0 r1 r2 r3
    exact ⟨_, _, _, _, rfl⟩
theorem opn_Told (h : DataW.trod enc Try.prog w 0 (fun _ => true) true fuel 39 cs = some y) (hb : Rows.uptoBulk y.1 ≤ B) : ∃ x : Tld, True ∧ RepFs w (fun b => b < w.heap.size) (encTl x) cs := by
  obtain ⟨hl, hf⟩ := opn_fields Try.underlying39 co_Told h hb
  match cs, hl with
  | [c0, c1, c2, c3, c4], _ =>
    obtain ⟨_, _, g0, _⟩ := hf 0 _ rfl
    obtain ⟨_, _, g1, b1⟩ := hf 1 _ rfl
    simp [co_int, co_Event] at g0 g1
    obtain ⟨n0, r0, -⟩ := opn_int Try.underlying3 g0
    obtain ⟨k, p, nm, num, r1⟩ := opn_Event g1 b1
    simp only [List.cons.injEq, and_true] at r0 r1
    subst r0
    obtain ⟨rfl, rfl, rfl, rfl⟩ := r1
    exact ⟨⟨n0, k, p, nm, num⟩, trivial, repFs_flat rfl rfl⟩
theorem opn_Otc (h : DataW.trod enc Try.prog w 0 (fun _ => true) true fuel 35 cs = some y) (hb : Rows.uptoBulk y.1 ≤ B) : ∃ x : Otc, x.ev.length ≤ B ∧ RepFs w (fun b => b < w.heap.size) (encOu x) cs := by
  obtain ⟨hl, hf⟩ := opn_fields Try.underlying35 co_Otc h hb
  match cs, hl with
  | [c0, c1], _ =>
    obtain ⟨_, _, g0, _⟩ := hf 0 _ rfl
    obtain ⟨_, _, g1, b1⟩ := hf 1 _ rfl
    simp [co_Errno, co_Tolds] at g0 g1
    obtain ⟨n0, r0, -⟩ := opn_int Try.underlying32 g0
    obtain ⟨l, u, r1, k1, k2, _⟩ := opn_slice (encA := encTl) (Good := fun _ => True) Try.underlying33 co_Told (by decide) (fun _ => rfl) (fun _ _ _ h hb => opn_Told h hb) g1 b1
    simp only [List.cons.injEq, and_true] at r0 r1
    subst r0 r1
    refine ⟨⟨n0, l⟩, k2, rfl, fun j x u hx hu => ?_⟩
    match j with
    | 0 => cases hx; cases hu; exact .s rfl
    | 1 => cases hx; cases hu; exact k1
    | j + 2 => simp [encOu] at hx
end
theorem lift_upto {H : Type} {enc : TypeId × Value → H} {C : Checked} {os : Os} {f : FuncId} {fn : Func} {s : ChangeSpec} {tb : TypeId} {F : Stop.Interp}
    (own : ownKnob C.prog.godebug = none) (started : os.Started) (noInit : C.prog.inits.idxOf? f = none) (hfn : C.prog.funcs[f]? = some fn)
    (witness : ∃ (w : World) (tape : Tape) (i : Input), w.os = os ∧ (w.forCall tape i).Shaped C.prog ∧ i.vars = [] ∧ Input.okWide C.prog (w.forCall tape i) .any w.heap.size f i ∧
      (Rows.OpenSpec.upto s).pre6 enc C.prog fn [] false (w.forCall tape i).memory i.args ∧ Assume.holds {} C.prog (lone (Frame.enter C.prog f i.args .normal) [] (w.forCall tape i)))
    (hl : laidOutB C.prog = true) (hpar : fn.params.toList.all (fun t => C.prog.readableRec t && decide (t < C.prog.types.size)) = true)
    (hres : fn.resultTypes = #[tb]) (hb : C.prog.underlying tb = some .bool) (hv : s.vars = [])
    (hs : ∀ ds : List (DataW H), ds.length = fn.params.size → s.fn H (ds ++ []) = { results := [.lit (.bool true)], args := ds })
    (walk : ∀ (W : World) (base : Nat) (args : Array Value) (ds : List (DataW H)) (p : List MemPlace),
      (∀ (j : Nat) t v, fn.params[j]? = some t → args[j]? = some v → Value.okWide C.prog W .any base t v) →
      DataW.TrodAll enc C.prog W 0 (fun _ => true) true fn.params.toList args.toList ds p →
      Rows.uptoBulkAll ds ≤ 1048576 →
      Calls C.prog f args W fun e W' => e = .returned (.bool true) ∧ Below W.heap.size W W') :
    ReturnsInHanded {} C os f .any ((Rows.OpenSpec.upto s).pre6 enc C.prog fn [] false) (((Rows.OpenSpec.upto s).at F).post enc C.prog fn false true false false) := by
  refine returnsInHanded_of_cond (C := C) (s := Rows.OpenSpec.upto s) (k := Rows.uptoSmall) rfl own started noInit hfn witness ?_
  intro W base args ds gs before hval hW _ hk _
  have hW' := hW
  obtain ⟨p, q, hA, hV, rfl, _, _⟩ := hW
  have hV' : DataW.TrodVars enc C.prog W (fun _ => true) s.vars gs q := hV
  rw [hv] at hV'
  obtain ⟨rfl, rfl⟩ := trodVars_none hV'
  have hlen : ds.length = fn.params.size := by
    have : ∀ (ts : List TypeId) (vs : List Value) (ds : List (DataW H)) (ps : List MemPlace), DataW.TrodAll enc C.prog W 0 (fun _ => true) true ts vs ds ps → ds.length = ts.length := by
      intro ts
      induction ts with
      | nil => intro vs ds ps h; cases vs <;> cases ds <;> first | rfl | exact h.elim
      | cons t ts ih =>
        intro vs ds ps h
        cases vs with
        | nil => exact h.elim
        | cons v vs =>
          cases ds with
          | nil => exact h.elim
          | cons d ds =>
            obtain ⟨p, q, _, h2, _⟩ := h
            simp [ih vs ds q h2]
    simpa using this _ _ _ _ hA
  have hk' := of_decide_eq_true hk
  rw [List.append_nil] at hk'
  refine (walk W base args ds p hval hA hk').mono fun e W' ⟨he, bel⟩ => ?_
  subst he
  refine ⟨_, rfl, ds, [], _, [], p, [], hW', ?_, ?_, ?_, bel.frame _, fun h => by cases h⟩
  · show DataW.TrodAll enc C.prog W' W.heap.size _ _ _ _ (s.fn H (ds ++ [])).results _
    rw [hs ds hlen, hres]
    exact trodAll_mk1 (shut_bool hb _)
  · show DataW.TrodAll enc C.prog W' 0 _ _ _ _ (s.fn H (ds ++ [])).args _
    rw [hs ds hlen]
    exact trodAll_below hl bel _ _ _ _ hpar hA
  · show DataW.TrodVars enc C.prog W' _ s.vars (s.fn H (ds ++ [])).vars _
    rw [hv, hs ds hlen]
    rfl
/-- a law over data, as the walk of its row -/
theorem calls_true {P : Program} {f : FuncId} {args : List V} (h : CallC P f args (gB true)) (W : World) (us : Array Value) (hl : args.length = us.size) (hr : ∀ (j : Nat) v u, args[j]? = some v → us[j]? = some u → RepV W (.pure (fun b => b < W.heap.size)) v u) :
    Calls P f us W fun e W' => e = .returned (.bool true) ∧ Below W.heap.size W W' :=
  (h.2 W us (fun b => b < W.heap.size) (fun _ hb => hb) hl hr).mono fun e W' ⟨u, I', he, hu, hb, _⟩ => by
    cases hu with
    | c hu => cases hu with
      | f hu => cases hu with
        | s => exact ⟨he, hb⟩
theorem rep_agg {w : World} {I : Nat → Prop} {xs : List F} {us : Array Value} (h : RepFs w I xs us.toList) : RepV w (.pure I) (.agg (xs.map .f)) (.agg us) :=
  .agg ⟨by rw [List.length_map]; exact h.1, fun j x u hx hu => by
    rw [List.getElem?_map] at hx
    cases hq : xs[j]? with
    | none => rw [hq] at hx; cases hx
    | some y => rw [hq] at hx; cases hx; exact .f (h.2 j y u hq hu)⟩
section
variable {H : Type} {enc : TypeId × Value → H} {w : World} {B base : Nat} {d : DataW H} {ps : List MemPlace} {v : Value}
theorem opv_Findings (ok : Value.okWide Try.prog w .any base 22 v) (h : DataW.Trod enc Try.prog w 0 (fun _ => true) true 22 v d ps) (hb : Rows.uptoBulk d ≤ 1048576) : ∃ l : List Fnd, l.length ≤ 1048576 ∧ RepV w (.pure (fun b => b < w.heap.size)) (gFn l) v := by
  obtain ⟨a, n, k, rfl⟩ := okWide_slice Try.underlying22 ok
  obtain ⟨m, hm⟩ := h
  obtain ⟨l, u, r, k1, k2, k3⟩ := opn_slice (encA := encFn) (Good := fun _ => True) Try.underlying22 co_Find (by decide) (fun _ => rfl) (fun _ _ _ h hb => opn_Find h hb) hm hb
  simp only [Value.cells, List.cons.injEq, and_true] at r
  subst r
  exact ⟨l, k2, .c (.f k1)⟩
theorem opv_Outcomes (ok : Value.okWide Try.prog w .any base 23 v) (h : DataW.Trod enc Try.prog w 0 (fun _ => true) true 23 v d ps) (hb : Rows.uptoBulk d ≤ 1048576) : ∃ l : List Otc, (l.length ≤ 1048576 ∧ ∀ o ∈ l, o.ev.length ≤ 1048576) ∧ RepV w (.pure (fun b => b < w.heap.size)) (gOu l) v := by
  obtain ⟨a, n, k, rfl⟩ := okWide_slice Try.underlying23 ok
  obtain ⟨m, hm⟩ := h
  obtain ⟨l, u, r, k1, k2, k3⟩ := opn_slice (encA := encOu) (Good := fun o => o.ev.length ≤ 1048576) Try.underlying23 co_Otc (by decide) (fun _ => rfl) (fun _ _ _ h hb => opn_Otc h hb) hm hb
  simp only [Value.cells, List.cons.injEq, and_true] at r
  subst r
  exact ⟨l, ⟨k2, k3⟩, .c (.f k1)⟩
end
/-- the facts of a row, the four that run over all that is reached apart (each for itself stays within the kernel's memory) -/
theorem joined_of {P : Program} {f : FuncId} {fn : Func} {s : ChangeSpec} {c : OpenClaim} (h1 : c.inPlace = P.inPlace f) (h2 : c.unfollowed = P.unfollowed f) (h3 : c.recurses = P.recurses f) (h4 : c.named = P.varsNamed f)
    (rest : (c.wf (OpenSpec.ofChange s) && laidOutB P && mapsRowed P &&
  fn.params.all (P.readableRec ·) && namedTie P c.named s.vars &&
  (c.stops == []) && (P.stops == []) && (c.knobs == []) && (P.stopKnobs == []) &&
  (c.maps == (fn.params.toList ++ s.plain.varTypes P).any (P.mapsRec ·)) && (c.ifaces == (fn.params.toList ++ s.plain.varTypes P).any (P.ifacesRec ·)) && (c.mapsOut == P.mapsAmong fn.resultTypes.toList) &&
  (c.loops == (fn.params.toList ++ s.plain.varTypes P).any (P.loopsFrom ·)) && (c.wideKeys == (fn.params.toList ++ s.plain.varTypes P ++ fn.resultTypes.toList).any (P.wideKeysFrom ·)) &&
  s.vars.all (P.varReadable ·) && fn.resultTypes.all (fun t => P.readableRec t && decide (t < P.types.size)) && (c.ifacesOut == fn.resultTypes.toList.any (P.ifacesRec ·)) && (c.loopsOut == fn.resultTypes.toList.any (P.loopsFrom ·)) && (c.plainKeys == P.plainKeys) && c.shortTexts.isNone && P.stopsHeard && P.mayEnter && (c.lifted == P.liftsFinal) && (P.make == some c.make) && (c.kinds == (if c.domain.isEmpty then [] else fn.params.toList.map fun t => match P.underlying t with | some (.int k) => some k | _ => none)) && (c.pinned == c.pinnedBy) &&
  (c.veiled == (fn.params.toList ++ s.plain.varTypes P ++ fn.resultTypes.toList).any (P.veiledRec ·)) && c.veiledFits P fn.params.toList (fn.params.toList ++ s.plain.varTypes P ++ fn.resultTypes.toList)) = true) :
    joinedFacts P f fn s c = true := by
  have g1 : (c.inPlace == P.inPlace f) = true := by rw [h1]; exact beq_self_eq_true _
  have g2 : (c.unfollowed == P.unfollowed f) = true := by rw [h2]; exact beq_self_eq_true _
  have g3 : (c.recurses == P.recurses f) = true := by rw [h3]; exact beq_self_eq_true _
  have g4 : (c.named == P.varsNamed f) = true := by rw [h4]; exact beq_self_eq_true _
  unfold joinedFacts
  rw [g1, g2, g3, g4, Bool.and_true, Bool.and_true, Bool.and_true, Bool.and_true]
  exact rest
theorem own : ownKnob Try.prog.godebug = none := by kernel_rfl
theorem laidOut : laidOutB Try.prog = true := by kernel_rfl
end Go.Proofs.Ytajokeimipllcaa
