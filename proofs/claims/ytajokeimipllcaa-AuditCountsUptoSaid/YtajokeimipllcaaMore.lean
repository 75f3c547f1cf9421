/-
  More words on memory: copy of elements of several cells over a block that is known whole. No program in sight.
-/
import Derived.Test.YtajokeimipllcaaBase
import Derived.Lib.Overlaps
import Derived.Lib.AppendZerosOnto
namespace Go.Ed
open Go.RowKit

/-- a list with a part written over -/
def over (cur : List Value) (o : Nat) (news : List Value) : List Value := cur.take o ++ news ++ cur.drop (o + news.length)
theorem over_length {cur : List Value} {o : Nat} {news : List Value} (h : o + news.length ≤ cur.length) : (over cur o news).length = cur.length := by
  simp [over]; omega
theorem over_none (cur : List Value) (o : Nat) : over cur o [] = cur := by simp [over]

theorem run_copyN {P : Program} {w : World} {dT sT ty elem : TypeId} {k : Nat} (hu : P.underlying dT = some (.slice elem)) (hI : (P.info? elem).map (·.size) = some k) {g o dLen dCap : Nat} {sA : Option Addr} {sLen sCap : Nat} {t : TypeId}
    {cur news : List Value} {m : Nat} (hg : Blk w g t cur.toArray) (hm : m = min sLen dLen) (hl : news.length = m * k) (hsrc : 0 < m → ∃ ad, sA = some ad ∧ ∀ j v, news[j]? = some v → w.cell? (ad.add j) = some v)
    (hfit : o + m * k ≤ cur.length) (h1 : ∀ v ∈ news, v.oneCell' = true) :
    (Builtin.copy_ #[dT, sT] ty #[.slice (some ⟨g, o, none⟩) dLen dCap, .slice sA sLen sCap]).run P w = .ok (goInt (m : Nat)) (w.setRow g (over cur o news).toArray) := by
  have hst := run_storeCells_at P g o t news 0 cur.toArray w hg (by simp <;> omega) h1
  have hf : (Builtin.firstCells k m (.slice sA sLen sCap)).run P w = .ok news.toArray w := by
    rcases Nat.eq_zero_or_pos m with h0 | h0
    · subst h0
      have hn : news = [] := List.eq_nil_of_length_eq_zero (by simpa using hl)
      subst hn
      cases sA with
      | none => exact run_firstCells_none w k 0 _ _
      | some ad => exact run_firstCells_some w k 0 ad _ _ [] (by simp) (fun j v h => by simp at h)
    · obtain ⟨ad, rfl, hc⟩ := hsrc h0
      exact run_firstCells_some w k m ad _ _ news hl hc
  have hmm : Nat.min sLen dLen = m := by rw [hm]
  cases hq : P.info? elem with
  | none => simp [hq] at hI
  | some i =>
    have hs : i.size = k := by simpa [hq] using hI
    simp [Builtin.copy_, run_underlying hu, Builtin.lenOf, sizeOf, typeInfo, hq, hs, hmm, hf, hst, over]

theorem blk_shape {w : World} {g : Nat} {t : TypeId} {cs : Array Value} (h : Blk w g t cs) : w.shape? g = some (t, cs.size) := by
  unfold Blk at h
  simp [World.shape?, h]

section
variable {P : Program} {w : World} {ops : Array Oper} {rest : List Oper} {a : Act} {Q : Exit → Act → World → Prop} {dst : Option Tmp} {type : TypeId} {pos : String} {after : Array Edge}
/-- copy with its run known -/
theorem go_copy_run {d s : Operand} {dT sT : TypeId} {v u : Value} {v' : Value} {w' : World} (hr : ∀ ty, (Builtin.copy_ #[dT, sT] ty #[v, u]).run P w = .ok v' w') (hd : a.eval d = v) (hs : a.eval s = u)
    (h : wpList P ops Q rest (a.put dst v') w') : wpList P ops Q (⟨dst, .call { callee := .builtin .copy, args := #[d, s], argTypes := #[dT, sT] }, type, pos, after, none⟩ :: rest) a w :=
  wpList_plain rfl fun K hK => by
    unfold Oper.wp execOp
    simp only [resolve, invoke, builtin, Sem.run_bind, Sem.run_pure, Result.andThen_ok, List.map_toArray, List.map_cons, List.map_nil, hd, hs, hr]
    exact hK _ _ h
/-- append with its run known -/
theorem go_append_run {d s : Operand} {dT sT : TypeId} {v u : Value} {v' : Value} {w' : World} (hr : ∀ ty, (Builtin.append_ #[dT, sT] ty #[v, u]).run P w = .ok v' w') (hd : a.eval d = v) (hs : a.eval s = u)
    (h : wpList P ops Q rest (a.put dst v') w') : wpList P ops Q (⟨dst, .call { callee := .builtin .append, args := #[d, s], argTypes := #[dT, sT] }, type, pos, after, none⟩ :: rest) a w :=
  wpList_plain rfl fun K hK => by
    unfold Oper.wp execOp
    simp only [resolve, invoke, builtin, Sem.run_bind, Sem.run_pure, Result.andThen_ok, List.map_toArray, List.map_cons, List.map_nil, hd, hs, hr]
    exact hK _ _ h
/-- copy with its run known, as one step of a region that draws -/
theorem step_copy_run {o : Oper} {K : Act → World → Prop} {E : Prop} {d s : Operand} {dT sT : TypeId} (hg : o.guard = none) (ho : o.op = .call { callee := .builtin .copy, args := #[d, s], argTypes := #[dT, sT] })
    {v u : Value} {v' : Value} {w' : World} (hr : ∀ ty, (Builtin.copy_ #[dT, sT] ty #[v, u]).run P w = .ok v' w') (hd : a.eval d = v) (hs : a.eval s = u)
    (h : K (a.put o.dst v') w') : if Region.wanted o (yielded ops a.tmps) = true then Oper.wp P o a w K Q else E := by
  have hw : Region.wanted o (yielded ops a.tmps) = true := by simp [Region.wanted, hg]
  rw [if_pos hw]
  unfold Oper.wp
  simp [execOp, ho, resolve, invoke, builtin, hd, hs, hr, Result.andThen]
  exact h
end

/-- the one result, a struct or an array in a block that is known whole -/
theorem results_blk {P : Program} {fn : Func} {p : Tmp} {ty : TypeId} (h : fn.results = #[.cell p ty]) {tmps : Array Value} {w : World} {g : Nat} {t : TypeId} {cs : Array Value} (hA : Agg P ty cs.size) (hg : Blk w g t cs)
    (hp : tmps.getD p undef = .pointer (some ⟨g, 0, none⟩)) : (results fn tmps).run P w = .ok (.agg cs) w := by
  obtain ⟨d, hu, hd, hi⟩ := hA
  refine results_cell_row h tmps w g t cs (0, 0) d hp hg hu ?_ hi
  cases d <;> simp_all [aggD]

/-! ### rows of the call's own -/
section
variable {w w' : World} {base : Nat} {e : TypeId} {size : Nat} {n : Nat} {xs : List Value}
theorem own_keep {v : Value} (h : w.ownsRow base e size v n xs) (hk : ∀ g, v.ownBlock = some g → w'.heap[g]? = w.heap[g]?) : w'.ownsRow base e size v n xs := by
  refine ⟨h.1, ?_⟩
  rcases h.2 with h2 | ⟨g, cap, cur, rfl, hb, hg, rest⟩
  · exact .inl h2
  · exact .inr ⟨g, cap, cur, rfl, hb, (hk g rfl).trans hg, rest⟩
theorem own_below {v : Value} (h : w.ownsRow base e size v n xs) {B : Nat} (hb : Below B w w') (hB : ∀ g, v.ownBlock = some g → g < B) : w'.ownsRow base e size v n xs := own_keep h fun g hg => hb.block g (hB g hg)
theorem own_chg {v : Value} (h : w.ownsRow base e size v n xs) {S : Nat → Prop} (hb : Chg S w w') (hB : ∀ g, v.ownBlock = some g → ¬ S g) : w'.ownsRow base e size v n xs := own_keep h fun g hg => hb.block g (h.lt g hg).2 (hB g hg)
theorem own_blk {g c : Nat} (h : w.ownsRow base e size (.slice (some ⟨g, 0, none⟩) n c) n xs) : ∃ cur : List Value, Blk w g e cur.toArray ∧ base ≤ g ∧ n ≤ c ∧ c ≤ maxLen ∧ cur.length = c * size ∧ cur.take (n * size) = xs := by
  rcases h.2 with ⟨h2, _⟩ | ⟨g', cap, cur, hv, hb, hg, hn, hc, hs, hx⟩
  · cases h2
  · injection hv with h1 h2 h3
    injection h1 with h1
    injection h1 with h1
    subst h1
    subst h3
    exact ⟨cur.toList, by simpa [Blk] using hg, hb, hn, hc, by simpa using hs, hx⟩
theorem own_of_blk {g c : Nat} {cur : List Value} (hg : Blk w g e cur.toArray) (hb : base ≤ g) (hn : n ≤ c) (hc : c ≤ maxLen) (hs : cur.length = c * size) (hx : cur.take (n * size) = xs) : w.ownsRow base e size (.slice (some ⟨g, 0, none⟩) n c) n xs := by
  refine ⟨?_, .inr ⟨g, c, cur.toArray, rfl, hb, hg, hn, hc, by simpa using hs, by simpa using hx⟩⟩
  have : n * size ≤ c * size := Nat.mul_le_mul_right _ hn
  rw [← hx, List.length_take]; omega
end
/-- one element put over another -/
theorem take_put {cur xs vs : List Value} {n k size : Nat} (hk : k < n) (hx : cur.take (n * size) = xs) (hl : n * size ≤ cur.length) (hv : vs.length = size) :
    (cur.take (k * size) ++ vs ++ cur.drop (k * size + size)).take (n * size) = xs.take (k * size) ++ vs ++ xs.drop (k * size + size) := by
  have h1 : k * size + size ≤ n * size := by rw [← Nat.succ_mul]; exact Nat.mul_le_mul_right _ hk
  subst hx
  generalize k * size = a at *
  generalize n * size = b at *
  rw [List.take_append, List.take_of_length_le (by simp only [List.length_append, List.length_take]; omega), List.take_take, Nat.min_eq_left (by omega), List.drop_take]
  congr 1
  simp only [List.length_append, List.length_take, hv, Nat.min_eq_left (show a ≤ cur.length by omega)]

theorem zeroCells_length (z : Array Value) (n : Nat) : (Builtin.zeroCells z n).size = n * z.size := by simp [Builtin.zeroCells]

theorem over_mid (P K R ys : List Value) (h : K.length = ys.length) : over (P ++ (K ++ R)) P.length ys = P ++ (ys ++ R) := by
  simp only [over, List.take_left, List.append_assoc]
  rw [← h, ← List.length_append, ← List.append_assoc P K R, List.drop_left]
theorem take_two (cur : List Value) (a k : Nat) (h : a + k ≤ cur.length) : ∃ K : List Value, K.length = k ∧ cur.take (a + k) = cur.take a ++ K :=
  ⟨(cur.drop a).take k, by simp; omega, List.take_add⟩
/-- what slices.Insert leaves in a row of c elements with room -/
theorem over_shift {cur xs ys : List Value} {n i c k : Nat} (hi : i < n) (hc : n + 1 ≤ c) (hcur : cur.length = c * k) (hx : cur.take (n * k) = xs) (hy : ys.length = k) :
    (over (over cur ((i + 1) * k) (xs.drop (i * k))) (i * k) ys).take ((n + 1) * k) = xs.take (i * k) ++ ys ++ xs.drop (i * k) := by
  have h1 : i * k + k ≤ n * k := by rw [← Nat.succ_mul]; exact Nat.mul_le_mul_right _ hi
  have h2 : n * k + k ≤ c * k := by rw [← Nat.succ_mul]; exact Nat.mul_le_mul_right _ hc
  have h3 : (i + 1) * k = i * k + k := Nat.succ_mul _ _
  have h4 : (n + 1) * k = n * k + k := Nat.succ_mul _ _
  have hxl : xs.length = n * k := by rw [← hx, List.length_take]; omega
  have hxt : xs.take (i * k) = cur.take (i * k) := by rw [← hx, List.take_take, Nat.min_eq_left (by omega)]
  rw [h3, h4, hxt]
  generalize i * k = a at *
  generalize n * k = b at *
  obtain ⟨K, hK, e⟩ := take_two cur a k (by omega)
  have e2 : over cur (a + k) (xs.drop a) = cur.take a ++ (K ++ (xs.drop a ++ cur.drop (a + k + (xs.drop a).length))) := by
    simp only [over, e, List.append_assoc]
  have hal : (cur.take a).length = a := by rw [List.length_take]; omega
  have e3 := over_mid (cur.take a) K (xs.drop a ++ cur.drop (a + k + (xs.drop a).length)) ys (by omega)
  rw [hal] at e3
  rw [e2, e3, ← List.append_assoc, ← List.append_assoc]
  have hl : (cur.take a ++ ys ++ xs.drop a).length = b + k := by simp only [List.length_append, hal, List.length_drop]; omega
  rw [← hl, List.take_left]
/-- what it leaves in a new row -/
theorem over_grow {xs ys Z : List Value} {n i k : Nat} (hi : i < n) (hx : xs.length = n * k) (hy : ys.length = k) (hZ : (n + 1 - i) * k ≤ Z.length) :
    (over (over (xs.take (i * k) ++ Z) (i * k) ys) ((i + 1) * k) (xs.drop (i * k))).take ((n + 1) * k) = xs.take (i * k) ++ ys ++ xs.drop (i * k) := by
  have h1 : i * k + k ≤ n * k := by rw [← Nat.succ_mul]; exact Nat.mul_le_mul_right _ hi
  have h3 : (i + 1) * k = i * k + k := Nat.succ_mul _ _
  have h4 : (n + 1) * k = n * k + k := Nat.succ_mul _ _
  have h5 : (n + 1 - i) * k = n * k + k - i * k := by rw [Nat.sub_mul, h4]
  rw [h5] at hZ
  rw [h3, h4]
  generalize i * k = a at *
  generalize n * k = b at *
  have hal : (xs.take a).length = a := by rw [List.length_take]; omega
  obtain ⟨K, R, eZ, hK⟩ : ∃ K R : List Value, Z = K ++ R ∧ K.length = k := ⟨Z.take k, Z.drop k, (List.take_append_drop _ _).symm, by rw [List.length_take]; omega⟩
  subst eZ
  rw [List.length_append] at hZ
  obtain ⟨M, T, eR, hM⟩ : ∃ M T : List Value, R = M ++ T ∧ M.length = b - a := ⟨R.take (b - a), R.drop (b - a), (List.take_append_drop _ _).symm, by rw [List.length_take]; omega⟩
  subst eR
  have e1 := over_mid (xs.take a) K (M ++ T) ys (by omega)
  rw [hal] at e1
  rw [e1]
  have e2 := over_mid (xs.take a ++ ys) M T (xs.drop a) (by rw [List.length_drop]; omega)
  rw [List.length_append, hal, hy] at e2
  rw [← List.append_assoc, e2, ← List.append_assoc]
  have hl : (xs.take a ++ ys ++ xs.drop a).length = b + k := by simp only [List.length_append, hal, List.length_drop]; omega
  rw [← hl, List.take_left]

end Go.Ed
