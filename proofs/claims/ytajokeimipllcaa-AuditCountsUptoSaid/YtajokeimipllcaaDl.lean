/-
  A small logic on data: states of a function that name no memory. No program in sight.
-/
import Derived.Test.YtajokeimipllcaaBase
import Derived.Test.YtajokeimipllcaaMore
import Derived.Great.BuildSlice
import Derived.RangeFuncNested
import Derived.RangeFuncLeaves
import Derived.OrdersIn
set_option linter.unusedSimpArgs false
set_option linter.unusedVariables false
namespace Go.Dl
open Go.Ed Go.RowKit

/-- data that stays: a value of one cell, or a slice of rows of k cells -/
inductive F where
  | s (v : Value)
  | l (k : Nat) (rows : List (List F))
  | fc (f : FuncId) (ca : List (List F))
/-- what a cell holds: data; the slice of an array of the call's own; whatever -/
inductive C where
  | f (x : F)
  | o (a : Nat)
  | un
  | p (t off : Nat)
/-- what a closure carries -/
inductive W where
  | f (x : F)
  | agg (xs : List F)
  | loc (t off : Nat)
  | rd (xs : List F)
/-- what a temporary holds -/
inductive V where
  | un
  | no
  | c (x : C)
  | agg (xs : List C)
  | tup (xs : List (Bool × List C))
  | loc (t off : Nat)
  | rd (xs : List F)
  | el (a k i off : Nat)
  | clo (f : FuncId) (fi ca : List W)

structure Env where
  B : Nat → Option Nat
  L : Nat → Option Value
  I : Nat → Prop

inductive RepF (w : World) (I : Nat → Prop) : F → Value → Prop
  | s {v : Value} (h : v.oneCell' = true) : RepF w I (.s v) v
  | e {k : Nat} {A : Option Addr} {c : Nat} : RepF w I (.l k []) (.slice A 0 c)
  | l {k : Nat} {rows : List (List F)} {ad : Addr} {n c : Nat} (us : Nat → Value) (hl : rows.length = n) (hn : 0 < n) (hk : ∀ r ∈ rows, r.length = k) (hc : n ≤ c) (hI : I ad.block)
      (hcell : ∀ j x, rows.flatten[j]? = some x → w.cell? (ad.add j) = some (us j)) (hx : ∀ j x, rows.flatten[j]? = some x → RepF w I x (us j)) : RepF w I (.l k rows) (.slice (some ad) n c)
  | fc {f : FuncId} {ca : List (List F)} {us : Array Value} (ad : Nat → Addr) (g : Nat → Nat → Value) (hl : ca.length = us.size) (hu : ∀ (j : Nat) u, us[j]? = some u → u = .pointer (some (ad j))) (hI : ∀ (j : Nat) xs, ca[j]? = some xs → I (ad j).block)
      (hcell : ∀ (j : Nat) xs (i : Nat) x, ca[j]? = some xs → xs[i]? = some x → w.cell? ((ad j).add i) = some (g j i)) (hx : ∀ (j : Nat) xs (i : Nat) x, ca[j]? = some xs → xs[i]? = some x → RepF w I x (g j i)) : RepF w I (.fc f ca) (.func (.func f) #[] us)

inductive RepC (w : World) (E : Env) : C → Value → Prop
  | f {x : F} {v : Value} (h : RepF w E.I x v) : RepC w E (.f x) v
  | o {a : Nat} {v : Value} (h : E.L a = some v) (h1 : v.oneCell' = true) : RepC w E (.o a) v
  | un {v : Value} (h : v.oneCell' = true) : RepC w E .un v
  | p {t off b : Nat} (h : E.B t = some b) : RepC w E (.p t off) (.pointer (some ⟨b, off, none⟩))

/-- cells one by one -/
def Reps (w : World) (E : Env) (xs : List C) (us : List Value) : Prop := xs.length = us.length ∧ ∀ (j : Nat) x u, xs[j]? = some x → us[j]? = some u → RepC w E x u
def RepFs (w : World) (I : Nat → Prop) (xs : List F) (us : List Value) : Prop := xs.length = us.length ∧ ∀ (j : Nat) x u, xs[j]? = some x → us[j]? = some u → RepF w I x u

/-- a part of a tuple -/
def RepP (w : World) (E : Env) : Bool × List C → Value → Prop
  | (true, cs), u => ∃ us : Array Value, u = .agg us ∧ Reps w E cs us.toList
  | (false, cs), u => ∃ x, cs = [x] ∧ RepC w E x u

inductive RepW (w : World) (E : Env) : W → Value → Prop
  | f {x : F} {v : Value} (h : RepF w E.I x v) : RepW w E (.f x) v
  | agg {xs : List F} {us : Array Value} (h : RepFs w E.I xs us.toList) : RepW w E (.agg xs) (.agg us)
  | loc {t off b : Nat} (h : E.B t = some b) : RepW w E (.loc t off) (.pointer (some ⟨b, off, none⟩))
  | rd {xs : List F} {ad : Addr} (us : Nat → Value) (hI : E.I ad.block) (hcell : ∀ j x, xs[j]? = some x → w.cell? (ad.add j) = some (us j)) (hx : ∀ j x, xs[j]? = some x → RepF w E.I x (us j)) : RepW w E (.rd xs) (.pointer (some ad))
def RepWs (w : World) (E : Env) (xs : List W) (us : List Value) : Prop := xs.length = us.length ∧ ∀ (j : Nat) x u, xs[j]? = some x → us[j]? = some u → RepW w E x u
inductive RepV (w : World) (E : Env) : V → Value → Prop
  | un {v : Value} : RepV w E .un v
  | no : RepV w E .no undef
  | c {x : C} {v : Value} (h : RepC w E x v) : RepV w E (.c x) v
  | agg {xs : List C} {us : Array Value} (h : Reps w E xs us.toList) : RepV w E (.agg xs) (.agg us)
  | tup {xs : List (Bool × List C)} {us : Array Value} (hl : xs.length = us.size) (h : ∀ (j : Nat) x u, xs[j]? = some x → us[j]? = some u → RepP w E x u) : RepV w E (.tup xs) (.tuple us)
  | loc {t off b : Nat} (h : E.B t = some b) : RepV w E (.loc t off) (.pointer (some ⟨b, off, none⟩))
  | rd {xs : List F} {ad : Addr} (us : Nat → Value) (hI : E.I ad.block) (hcell : ∀ j x, xs[j]? = some x → w.cell? (ad.add j) = some (us j)) (hx : ∀ j x, xs[j]? = some x → RepF w E.I x (us j)) : RepV w E (.rd xs) (.pointer (some ad))
  | el {a k i off n c : Nat} {ad : Addr} (h : E.L a = some (.slice (some ad) n c)) : RepV w E (.el a k i off) (.pointer (some (ad.add (i * k + off))))
  | clo {f : FuncId} {fi ca : List W} {us vs : Array Value} (h1 : RepWs w E fi us.toList) (h2 : RepWs w E ca vs.toList) : RepV w E (.clo f fi ca) (.func (.func f) us vs)

theorem RepF.mono {w w' : World} {I I' : Nat → Prop} {x : F} {u : Value} (h : RepF w I x u) (hb : ∀ b, I b → w'.heap[b]? = w.heap[b]?) (hI : ∀ b, I b → I' b) : RepF w' I' x u := by
  induction h with
  | s h => exact .s h
  | e => exact .e
  | l us hl hn hk hc hi hcell hx ih =>
    refine .l us hl hn hk hc (hI _ hi) (fun j x hj => ?_) ih
    rw [World.cell?_of_block (hb _ (by rw [block_of_add]; exact hi))]
    exact hcell j x hj
  | fc ad g hl hu hi hcell hx ih =>
    refine .fc ad g hl hu (fun j xs hj => hI _ (hi j xs hj)) (fun j xs i x hj hx => ?_) ih
    rw [World.cell?_of_block (hb _ (by rw [block_of_add]; exact hi j xs hj))]
    exact hcell j xs i x hj hx
theorem RepF.one {w : World} {I : Nat → Prop} {x : F} {u : Value} (h : RepF w I x u) : u.oneCell' = true := by
  cases h with
  | s h => exact h
  | e => rfl
  | l => rfl
  | fc => rfl
theorem RepC.one {w : World} {E : Env} {x : C} {u : Value} (h : RepC w E x u) : u.oneCell' = true := by
  cases h with
  | f h => exact h.one
  | o _ h => exact h
  | un h => exact h
  | p h => rfl

/-- what is known of memory may grow -/
structure Env.Le (w w' : World) (E E' : Env) : Prop where
  mem : ∀ b, E.I b → w'.heap[b]? = w.heap[b]?
  I : ∀ b, E.I b → E'.I b
  B : ∀ t b, E.B t = some b → E'.B t = some b
  L : ∀ a v, E.L a = some v → E'.L a = some v
theorem RepC.mono {w w' : World} {E E' : Env} {x : C} {u : Value} (h : RepC w E x u) (he : Env.Le w w' E E') : RepC w' E' x u := by
  cases h with
  | f h => exact .f (h.mono he.mem he.I)
  | o h h1 => exact .o (he.L _ _ h) h1
  | un h => exact .un h
  | p h => exact .p (he.B _ _ h)
theorem Reps.mono {w w' : World} {E E' : Env} {xs : List C} {us : List Value} (h : Reps w E xs us) (he : Env.Le w w' E E') : Reps w' E' xs us :=
  ⟨h.1, fun j x u hx hu => (h.2 j x u hx hu).mono he⟩
theorem RepP.mono {w w' : World} {E E' : Env} {x : Bool × List C} {u : Value} (h : RepP w E x u) (he : Env.Le w w' E E') : RepP w' E' x u := by
  obtain ⟨b, cs⟩ := x
  cases b
  · obtain ⟨x, e, h⟩ := h
    exact ⟨x, e, h.mono he⟩
  · obtain ⟨us, e, h⟩ := h
    exact ⟨us, e, h.mono he⟩
theorem RepW.mono {w w' : World} {E E' : Env} {x : W} {u : Value} (h : RepW w E x u) (hm : ∀ b, E.I b → w'.heap[b]? = w.heap[b]?) (hI : ∀ b, E.I b → E'.I b) (hB : ∀ t b, E.B t = some b → E'.B t = some b) : RepW w' E' x u := by
  cases h with
  | f h => exact .f (h.mono hm hI)
  | agg h => exact .agg ⟨h.1, fun j x u hx hu => (h.2 j x u hx hu).mono hm hI⟩
  | loc h => exact .loc (hB _ _ h)
  | rd us h1 h2 h3 =>
    refine .rd us (hI _ h1) (fun j x hj => ?_) fun j x hj => (h3 j x hj).mono hm hI
    rw [World.cell?_of_block (hm _ (by rw [block_of_add]; exact h1))]
    exact h2 j x hj
theorem RepWs.mono {w w' : World} {E E' : Env} {xs : List W} {us : List Value} (h : RepWs w E xs us) (hm : ∀ b, E.I b → w'.heap[b]? = w.heap[b]?) (hI : ∀ b, E.I b → E'.I b) (hB : ∀ t b, E.B t = some b → E'.B t = some b) : RepWs w' E' xs us :=
  ⟨h.1, fun j x u hx hu => (h.2 j x u hx hu).mono hm hI hB⟩
theorem RepV.mono {w w' : World} {E E' : Env} {x : V} {u : Value} (h : RepV w E x u) (he : Env.Le w w' E E') : RepV w' E' x u := by
  cases h with
  | el h => exact .el (he.L _ _ h)
  | clo h1 h2 => exact .clo (h1.mono he.mem he.I he.B) (h2.mono he.mem he.I he.B)
  | un => exact .un
  | no => exact .no
  | c h => exact .c (h.mono he)
  | agg h => exact .agg (h.mono he)
  | tup hl h => exact .tup hl fun j x u hx hu => (h j x u hx hu).mono he
  | loc h => exact .loc (he.B _ _ h)
  | rd us hI hcell hx =>
    refine .rd us (he.I _ hI) (fun j x hj => ?_) fun j x hj => (hx j x hj).mono he.mem he.I
    rw [World.cell?_of_block (he.mem _ (by rw [block_of_add]; exact hI))]
    exact hcell j x hj

/-- a state: temporaries, blocks of the call's own, arrays of the call's own -/
structure St where
  slots : Nat → V
  blks : Nat → Option (TypeId × List C)
  arrs : Nat → Option (TypeId × Nat × List (List F))
def upd {α : Type} (f : Nat → α) (t : Nat) (v : α) (j : Nat) : α := if j = t then v else f j
theorem upd_same {α : Type} (f : Nat → α) (t : Nat) (v : α) : upd f t v t = v := by simp [upd]
theorem upd_ne {α : Type} (f : Nat → α) {t j : Nat} (v : α) (h : j ≠ t) : upd f t v j = f j := by simp [upd, h]
theorem upd_comm {α : Type} (f : Nat → α) {t j : Nat} (v u : α) (h : j ≠ t) : upd (upd f t v) j u = upd (upd f j u) t v := by
  funext i
  simp only [upd]
  by_cases h1 : i = j <;> by_cases h2 : i = t <;> simp_all

/-- of a call: the blocks of the outside that it may change; those that stay -/
structure Fr where
  X : Nat → Prop
  I0 : Nat → Prop
  /-- blocks of the outside that the call knows by a name -/
  B0 : List Nat := []
  G : Nat → Nat := id
  /-- of a round of a range over a function: its loop's record -/
  rd : Option Nat := none
  /-- no range over a function leaves a mark -/
  nm : Bool := false
/-- the block that a value of the call's own leads to: a slice's array, a map -/
def _root_.Go.Value.ownB : Value → Option Nat
  | .slice (some a) _ _ => some a.block
  | .map b => b
  | _ => none
/-- cells, or a map: what the call's own values lead to -/
def _root_.Go.Obj.isMem : Obj → Bool
  | .cells .. => true
  | .map .. => true
  | _ => false
/-- an entry's cells; a value's form -/
def mcells (x : MapEntry) : List Value := x.key.cells.toList ++ x.val.cells.toList
def shp (a : Bool) (n : Nat) (v : Value) : Prop := v.cells.size = n ∧ (a = false → v.oneCell' = true) ∧ (a = true → ∃ cs, v = .agg cs)
/-- an own map: key of kn cells (a struct: ka), element (a struct: va) -/
def OwnM (w : World) (base kn : Nat) (ka va : Bool) (k : Nat) (v : Value) (n : Nat) (us : List Value) : Prop :=
  ∃ b es clock, v = .map (some b) ∧ base ≤ b ∧ w.heap[b]? = some (.map es clock) ∧ es.size = n ∧ us = es.toList.flatMap mcells ∧ ∀ x ∈ es.toList, shp ka kn x.key ∧ shp va (k - kn) x.val ∧ kn ≤ k ∧ x.born < clock
/-- the mark of a map among the own arrays -/
def mtag (t kn : Nat) (ka va : Bool) : TypeId := 1000000 + ((t * 64 + kn) * 2 + ka.toNat) * 2 + va.toNat
def OwnA (w : World) (base : Nat) (e : TypeId) (k : Nat) (v : Value) (n : Nat) (us : List Value) : Prop :=
  (e < 1000000 ∧ w.ownsRow base e k v n us) ∨ ∃ t kn ka va, kn < 64 ∧ e = mtag t kn ka va ∧ OwnM w base kn ka va k v n us
theorem OwnA.of {w : World} {base : Nat} {e : TypeId} {k n : Nat} {v : Value} {us : List Value} (h : w.ownsRow base e k v n us) (he : e < 1000000) : OwnA w base e k v n us := .inl ⟨he, h⟩
theorem mtag_le (t kn : Nat) (ka va : Bool) : 1000000 ≤ mtag t kn ka va := by
  show 1000000 ≤ 1000000 + ((t * 64 + kn) * 2 + ka.toNat) * 2 + va.toNat
  rw [Nat.add_assoc]
  exact Nat.le_add_right _ _
theorem OwnA.row {w : World} {base : Nat} {e : TypeId} {k n : Nat} {v : Value} {us : List Value} (h : OwnA w base e k v n us) (he : e < 1000000) : w.ownsRow base e k v n us := by
  rcases h with h | ⟨t, kn, ka, va, _, rfl, _⟩
  · exact h.2
  · exact absurd he (Nat.not_lt.2 (mtag_le t kn ka va))
theorem OwnA.sl {w : World} {base : Nat} {e : TypeId} {k n m c : Nat} {A : Option Addr} {us : List Value} (h : OwnA w base e k (.slice A m c) n us) : e < 1000000 ∧ w.ownsRow base e k (.slice A m c) n us := by
  rcases h with h | ⟨t, kn, ka, va, _, rfl, b, es, cl, h, _⟩
  · exact h
  · cases h
theorem row_ownB {w : World} {base : Nat} {e : TypeId} {k n : Nat} {v : Value} {us : List Value} (h : w.ownsRow base e k v n us) : v.ownB = v.ownBlock := by
  obtain ⟨A, c, rfl, _⟩ := own_slice h
  cases A <;> rfl
theorem OwnA.lt {w : World} {base : Nat} {e : TypeId} {k n : Nat} {v : Value} {us : List Value} (h : OwnA w base e k v n us) (b : Nat) (hb : v.ownB = some b) : base ≤ b ∧ b < w.heap.size := by
  rcases h with ⟨_, h⟩ | ⟨t, kn, ka, va, _, rfl, b', es, cl, rfl, h0, hh, _⟩
  · rw [row_ownB h] at hb; exact h.lt b hb
  · cases hb; exact ⟨h0, (Array.getElem?_eq_some_iff.1 hh).1⟩
theorem OwnA.one {w : World} {base : Nat} {e : TypeId} {k n : Nat} {v : Value} {us : List Value} (h : OwnA w base e k v n us) : v.oneCell' = true := by
  rcases h with ⟨_, h⟩ | ⟨t, kn, ka, va, _, rfl, b', es, cl, rfl, _⟩
  · obtain ⟨A, c, rfl, _⟩ := own_slice h; rfl
  · rfl
theorem ownA_keep {w w' : World} {base : Nat} {e : TypeId} {k n : Nat} {v : Value} {us : List Value} (h : OwnA w base e k v n us) (hk : ∀ g, v.ownB = some g → w'.heap[g]? = w.heap[g]?) : OwnA w' base e k v n us := by
  rcases h with ⟨he, h⟩ | ⟨t, kn, ka, va, h0, h1, b, es, cl, rfl, h2, h3, h4⟩
  · exact .inl ⟨he, own_keep h fun g hg => hk g (by rw [row_ownB h]; exact hg)⟩
  · exact .inr ⟨t, kn, ka, va, h0, h1, b, es, cl, rfl, h2, (hk b rfl).trans h3, h4⟩
theorem ownA_below {w w' : World} {base : Nat} {e : TypeId} {k n : Nat} {v : Value} {us : List Value} (h : OwnA w base e k v n us) {B : Nat} (hb : Below B w w') (hB : ∀ g, v.ownB = some g → g < B) : OwnA w' base e k v n us := ownA_keep h fun g hg => hb.block g (hB g hg)
theorem OwnA.base {w : World} {base base' : Nat} {e : TypeId} {k n : Nat} {v : Value} {us : List Value} (h : OwnA w base e k v n us) (hb : base' ≤ base) : OwnA w base' e k v n us := by
  rcases h with ⟨he, h⟩ | ⟨t, kn, ka, va, h0, h1, b, es, cl, rfl, h2, h3⟩
  · refine .inl ⟨he, h.1, ?_⟩
    rcases h.2 with h | ⟨g, cap, cur, h1, h2, h3⟩
    · exact .inl h
    · exact .inr ⟨g, cap, cur, h1, Nat.le_trans hb h2, h3⟩
  · exact .inr ⟨t, kn, ka, va, h0, h1, b, es, cl, rfl, Nat.le_trans hb h2, h3⟩
/-- the marks that ranges over functions have left among the deferred calls; a round's record is there -/
structure Frk (X : Fr) (w0 : World) (I : Nat → Prop) (ds : List Deferred) (w : World) : Prop where
  nd : ds.Nodup
  ms : ∀ d, d ∈ ds → ∃ D, d = { target := .collected D, args := #[] } ∧ w0.heap.size ≤ D ∧ w.heap[D]? = some (.deferred (some [])) ∧ ¬ I D
  rd : ∀ l, X.rd = some l → ∃ r, w.heap[l]? = some (.loop r)
  nm : X.nm = true → ds = []
theorem Frk.keep {X : Fr} {w0 w w' : World} {I : Nat → Prop} {ds : List Deferred} (h : Frk X w0 I ds w) (hk : ∀ (k : Nat) (o : Obj), w.heap[k]? = some o → o.isMem = false → w'.heap[k]? = w.heap[k]?) : Frk X w0 I ds w' :=
  ⟨h.nd, fun d hd => let ⟨D, h1, h2, h3, h4⟩ := h.ms d hd; ⟨D, h1, h2, (hk D _ h3 rfl).trans h3, h4⟩, fun l hl => let ⟨r, hr⟩ := h.rd l hl; ⟨r, (hk l _ hr rfl).trans hr⟩, h.nm⟩
theorem Frk.below {X : Fr} {w0 w w' : World} {I : Nat → Prop} {ds : List Deferred} (h : Frk X w0 I ds w) (hb : Below w.heap.size w w') : Frk X w0 I ds w' :=
  h.keep fun k _ ho _ => hb.block k (Array.getElem?_eq_some_iff.1 ho).1
theorem Frk.mem {X : Fr} {w0 w : World} {I I' : Nat → Prop} {ds : List Deferred} (h : Frk X w0 I ds w) (hI : ∀ b, I' b → I b ∨ w.heap.size ≤ b ∨ ∃ o : Obj, w.heap[b]? = some o ∧ o.isMem = true) : Frk X w0 I' ds w :=
  ⟨h.nd, fun d hd => let ⟨D, h1, h2, h3, h4⟩ := h.ms d hd; ⟨D, h1, h2, h3, fun hd => by
    rcases hI D hd with h | h | ⟨o, ho, hc⟩
    · exact h4 h
    · have := (Array.getElem?_eq_some_iff.1 h3).1; omega
    · rw [h3] at ho; cases ho; cases hc⟩, h.rd, h.nm⟩
theorem Frk.far {X : Fr} {w0 w w' : World} {I : Nat → Prop} {ds : List Deferred} {g : Nat} (h : Frk X w0 I ds w) (hg : ∃ o : Obj, w.heap[g]? = some o ∧ o.isMem = true) (hk : ∀ k, k ≠ g → w'.heap[k]? = w.heap[k]?) : Frk X w0 I ds w' :=
  h.keep fun k o ho hc => hk k fun e => by
    obtain ⟨o', h1, h2⟩ := hg
    rw [← e, ho] at h1; cases h1; rw [hc] at h2; cases h2
theorem Frk.none {X : Fr} {w0 w : World} {I : Nat → Prop} (h : X.rd = none) : Frk X w0 I [] w := ⟨List.nodup_nil, fun _ h => (by cases h), fun l hl => (by rw [h] at hl; cases hl), fun _ => rfl⟩
theorem blk_cells {w : World} {b : Nat} {e : TypeId} {vs : Array Value} (h : Blk w b e vs) : ∃ o : Obj, w.heap[b]? = some o ∧ o.isMem = true := ⟨_, h, rfl⟩
theorem own_cells {w : World} {base : Nat} {e : TypeId} {k n : Nat} {v : Value} {us : List Value} (h : OwnA w base e k v n us) {b : Nat} (hb : v.ownB = some b) : ∃ o : Obj, w.heap[b]? = some o ∧ o.isMem = true := by
  rcases h with ⟨_, h⟩ | ⟨t, kn, ka, va, _, _, b', es, cl, rfl, _, hh, _⟩
  · rcases h.2 with ⟨hv, h0⟩ | ⟨g, cap, cur, hv, _, hg, _⟩
    · rw [hv] at hb; cases hb
    · rw [hv] at hb
      cases hb
      exact ⟨_, hg, rfl⟩
  · cases hb; exact ⟨_, hh, rfl⟩
/-- a state fits an activation in a world: what stood when the call began is as it was, but for the blocks X -/
structure Sim (X : Fr) (w0 : World) (N : Nat) (S : St) (E : Env) (a : Act) (w : World) : Prop where
  chg : Chg X.X w0 w
  fr : Frk X w0 E.I a.defers w
  sz : a.tmps.size = N
  slot : ∀ t, RepV w E (S.slots t) (a.tmps.getD t undef)
  blk : ∀ t e cs, S.blks t = some (e, cs) → ∃ b vs, E.B t = some b ∧ Blk w b e vs ∧ Reps w E cs vs.toList ∧ (w0.heap.size ≤ b ∨ X.X b)
  inj : ∀ t t' b, E.B t = some b → E.B t' = some b → t = t'
  bl : ∀ t b, E.B t = some b → b < w.heap.size ∧ ¬ E.I b
  arr : ∀ a e k rows, S.arrs a = some (e, k, rows) → ∃ v us, E.L a = some v ∧ OwnA w 0 e k v rows.length us ∧ RepFs w E.I rows.flatten us ∧ (∀ r ∈ rows, r.length = k) ∧ ∀ b, v.ownB = some b → w0.heap.size ≤ b ∨ X.X b
  al : ∀ a v b, E.L a = some v → v.ownB = some b → b < w.heap.size ∧ ¬ E.I b ∧ ∀ t, E.B t ≠ some b
  ai : ∀ a a' v v' b, E.L a = some v → E.L a' = some v' → v.ownB = some b → v'.ownB = some b → a = a'
  bn : ∀ t, S.blks t = none → E.B t = none
  an : ∀ a, S.arrs a = none → E.L a = none
  il : ∀ b, E.I b → b < w.heap.size
  i0 : ∀ b, X.I0 b → E.I b
  i1 : ∀ b, E.I b → X.I0 b ∨ w0.heap.size ≤ b ∨ X.X b
  kp : ∀ t, t ∈ X.B0 → E.B t = some (X.G t)


/-! ### What a type is, as a walk needs it -/
inductive Bas where
  | bool
  | str
  | int (k : IntKind)
  deriving DecidableEq
def Bas.desc : Bas → TypeDesc
  | .bool => .bool
  | .str => .string
  | .int k => .int k
def Bas.is : Bas → TypeDesc → Bool
  | .bool, .bool => true
  | .str, .string => true
  | .int k, .int k' => k == k'
  | _, _ => false
theorem Bas.is_ok {b : Bas} {d : TypeDesc} (h : b.is d = true) : d = b.desc := by
  cases b <;> cases d <;> simp_all [Bas.is, Bas.desc]
structure Ty where
  k : Nat
  agg : Bool
  pls : List (Nat × Nat) := []
  elem : Option (TypeId × Nat × Nat) := none
  bas : Option Bas := none
  fts : List TypeId := []
  zs : List Value
  mp : Option (TypeId × TypeId) := none
structure TyOk (P : Program) (t : TypeId) (y : Ty) : Prop where
  size : (P.info? t).map (·.size) = some y.k
  agg : ∃ d, P.underlying t = some d ∧ aggD d = y.agg
  one : y.agg = false → y.k = 1
  pls : y.agg = true → ∃ fs, P.underlying t = some (.struct fs) ∧ fs.toList.mapM (fun f => (P.info? f.type).map fun i => (f.offset, i.size)) = some y.pls ∧ fs.toList.map (·.type) = y.fts ∧ ∀ p ∈ y.pls, p.2 ≠ 0
  elem : ∀ e k b, y.elem = some (e, k, b) → P.underlying t = some (.slice e) ∧ 0 < k ∧ ∃ i z, P.info? e = some i ∧ i.zero = some z ∧ i.size = k ∧ i.bytes = b ∧ z.cells.size = k
  bas : ∀ b, y.bas = some b → P.underlying t = some b.desc
  zero : ∃ z, ((P.info? t).bind (·.zero)) = some z ∧ z.cells.toList = y.zs ∧ (y.agg = false → z.oneCell' = true)
  zk : y.zs.length = y.k
  z1 : ∀ v ∈ y.zs, v.oneCell' = true
  mp : ∀ K V, y.mp = some (K, V) → P.underlying t = some (.map K V)
def eqV : Value → Value → Bool
  | .bool a, .bool b => a == b
  | .int k a, .int k' b => k == k' && a == b
  | .string a, .string b => a.data.toList == b.data.toList
  | .pointer none, .pointer none => true
  | .slice none a b, .slice none c d => a == c && b == d
  | .map none, .map none => true
  | .nilFunc, .nilFunc => true
  | .nilIface, .nilIface => true
  | _, _ => false
theorem eqV_eq {a b : Value} (h : eqV a b = true) : a = b := by
  unfold eqV at h
  split at h <;> simp_all
  rename_i a b
  obtain ⟨⟨a⟩⟩ := a
  obtain ⟨⟨b⟩⟩ := b
  simpa using h
def eqVs : List Value → List Value → Bool
  | [], [] => true
  | a :: x, b :: y => eqV a b && eqVs x y
  | _, _ => false
theorem eqVs_eq : ∀ {a b : List Value}, eqVs a b = true → a = b
  | [], [], _ => rfl
  | a :: x, b :: y, h => by
    simp only [eqVs, Bool.and_eq_true] at h
    rw [eqV_eq h.1, eqVs_eq h.2]
  | [], _ :: _, h => by simp [eqVs] at h
  | _ :: _, [], h => by simp [eqVs] at h
def placesOf (P : Program) (fs : List Field) : Option (List (Nat × Nat)) := fs.mapM (fun f => (P.info? f.type).map fun i => (f.offset, i.size))
def tyOk (P : Program) (t : TypeId) (y : Ty) : Bool :=
  (match P.info? t, P.underlying t with
   | some i, some d => i.size == y.k && (aggD d == y.agg) && (y.agg || y.k == 1) && (match i.zero with | some z => eqVs z.cells.toList y.zs && (y.agg || z.oneCell') | none => false)
     && (!y.agg || (match d with | .struct fs => (match placesOf P fs.toList with | some l => l == y.pls | none => false) && fs.toList.map (·.type) == y.fts && y.pls.all (fun p => p.2 != 0) | _ => false))
     && (match y.elem with | none => true | some (e, k, b) => (match d with | .slice e' => e == e' && decide (0 < k) && (match P.info? e with | some j => j.size == k && j.bytes == b && (match j.zero with | some z => z.cells.size == k | none => false) | none => false) | _ => false))
     && (match y.bas with | none => true | some b => b.is d)
     && (match y.mp with | none => true | some (K, V) => (match d with | .map K' V' => K == K' && V == V' | _ => false))
   | _, _ => false) && y.zs.length == y.k && y.zs.all (·.oneCell')
theorem tyOk_ok {P : Program} {t : TypeId} {y : Ty} (h : tyOk P t y = true) : TyOk P t y := by
  unfold tyOk at h
  cases hi : P.info? t with
  | none => simp [hi] at h
  | some i =>
    cases hd : P.underlying t with
    | none => simp [hi, hd] at h
    | some d =>
      simp only [hi, hd, Bool.and_eq_true, Bool.or_eq_true, Bool.not_eq_true', beq_iff_eq, List.all_eq_true] at h
      obtain ⟨⟨⟨⟨⟨⟨⟨⟨⟨h1, h2⟩, h3⟩, h4⟩, h5⟩, h6⟩, h66⟩, h67⟩, h7⟩, h8⟩ := h
      refine ⟨by simp [hi, h1], ⟨d, hd, h2⟩, fun h => ?_, fun h => ?_, fun e k b he => ?_, fun b hb => ?_, ?_, h7, h8, fun K V hm => ?_⟩
      · rcases h3 with h3 | h3
        · rw [h] at h3; cases h3
        · exact h3
      · rcases h5 with h5 | h5
        · rw [h] at h5; cases h5
        · cases d <;> simp at h5
          rename_i fs
          refine ⟨fs, hd, ?_, h5.1.2, fun p hp => h5.2 p.1 p.2 hp⟩
          have h9 := h5.1.1
          unfold placesOf at h9
          split at h9
          · rename_i l hl; rw [hl, (by simpa using h9 : l = y.pls)]
          · cases h9
      · rw [he] at h6
        cases d <;> simp at h6
        rename_i e'
        obtain ⟨⟨rfl, hk⟩, h6⟩ := h6
        refine ⟨hd, hk, ?_⟩
        cases hj : P.info? e with
        | none => simp [hj] at h6
        | some j =>
          simp [hj] at h6
          cases hz : j.zero with
          | none => simp [hz] at h6
          | some z => simp [hz] at h6; exact ⟨j, z, rfl, hz, h6.1.1, h6.1.2, h6.2⟩
      · rw [hb] at h66
        rw [hd, Bas.is_ok h66]
      · cases hz : i.zero with
        | none => simp [hz] at h4
        | some z => simp [hz] at h4; exact ⟨z, by simp [hi, hz], eqVs_eq h4.1, fun hf => h4.2.resolve_left (by simp [hf])⟩
      · rw [hm] at h67
        cases d <;> simp at h67
        obtain ⟨rfl, rfl⟩ := h67
        exact hd
def tab : List (Nat × Ty) → Nat → Option Ty
  | [], _ => none
  | (j, y) :: r, t => if t = j then some y else tab r t
def tabOk (P : Program) (T : List (Nat × Ty)) : Bool := T.all fun p => tyOk P p.1 p.2
theorem tab_ok {P : Program} : ∀ {T : List (Nat × Ty)}, tabOk P T = true → ∀ {t y}, tab T t = some y → TyOk P t y
  | [], _, t, y, h => by simp [tab] at h
  | (j, z) :: r, hT, t, y, h => by
    simp only [tabOk, List.all_cons, Bool.and_eq_true] at hT
    unfold tab at h
    split at h
    · rename_i e; cases h; subst e; exact tyOk_ok hT.1
    · exact tab_ok (T := r) hT.2 h

/-! ### What an operation does to a state -/
def cv : Value → V
  | .agg cs => if cs.toList.all (·.oneCell') then .agg (cs.toList.map fun v => .f (.s v)) else .un
  | .tuple _ => .un
  | v => .c (.f (.s v))
def ev (S : St) : Operand → V
  | .tmp t => S.slots t
  | .const v => cv v
  | .func f => .c (.f (.s (.func (.func f) #[] #[])))
  | .global _ => .un
/-- the blocks that a closure carries, if all of them stay -/
def rdsOf : List W → Option (List (List F))
  | [] => some []
  | .rd xs :: r => match rdsOf r with
    | some rs => some (xs :: rs)
    | none => none
  | _ :: _ => none
theorem rdsOf_eq : ∀ {ca : List W} {cs : List (List F)}, rdsOf ca = some cs → ca = cs.map .rd
  | [], cs, h => by cases h; rfl
  | x :: r, cs, h => by
    cases x with
    | rd xs =>
      simp only [rdsOf] at h
      cases hq : rdsOf r with
      | none => rw [hq] at h; cases h
      | some rs => rw [hq] at h; cases h; rw [rdsOf_eq hq]; rfl
    | _ => cases h
theorem fc_of {w : World} {E : Env} {f : FuncId} {cs : List (List F)} {us : Array Value} (h : RepWs w E (cs.map .rd) us.toList) : RepF w E.I (.fc f cs) (.func (.func f) #[] us) := by
  have hl : cs.length = us.size := by simpa using h.1
  have key : ∀ j : Nat, ∃ (ad : Addr) (g : Nat → Value), (∀ u : Value, us[j]? = some u → u = .pointer (some ad)) ∧ ∀ xs, cs[j]? = some xs → E.I ad.block ∧ (∀ (i : Nat) x, xs[i]? = some x → w.cell? (ad.add i) = some (g i)) ∧ ∀ (i : Nat) x, xs[i]? = some x → RepF w E.I x (g i) := fun j => by
    cases hc : cs[j]? with
    | none =>
      refine ⟨⟨0, 0, none⟩, fun _ => undef, fun u hu => ?_, fun xs h => by cases h⟩
      have h1 := (List.getElem?_eq_none_iff.1 hc)
      have h2 := (Array.getElem?_eq_some_iff.1 hu).1
      omega
    | some xs =>
      have hj : j < us.size := by rw [← hl]; exact (List.getElem?_eq_some_iff.1 hc).1
      have h1 := h.2 j (.rd xs) us[j] (by rw [List.getElem?_map, hc]; rfl) (by simp [hj])
      generalize hu : us[j] = u at h1
      cases h1 with
      | @rd _ ad g h1 h2 h3 =>
        refine ⟨ad, g, fun u hu' => ?_, fun xs' he => by cases he; exact ⟨h1, h2, h3⟩⟩
        rw [Array.getElem?_eq_getElem hj, hu] at hu'
        cases hu'; rfl
  refine .fc (fun j => (key j).choose) (fun j => (key j).choose_spec.choose) hl (fun j u hu => (key j).choose_spec.choose_spec.1 u hu) (fun j xs hj => ((key j).choose_spec.choose_spec.2 xs hj).1) (fun j xs i x hj hx => ((key j).choose_spec.choose_spec.2 xs hj).2.1 i x hx) fun j xs i x hj hx => ((key j).choose_spec.choose_spec.2 xs hj).2.2 i x hx
theorem fc_to {w : World} {E : Env} {f : FuncId} {cs : List (List F)} {u : Value} (h : RepF w E.I (.fc f cs) u) : ∃ us : Array Value, u = .func (.func f) #[] us ∧ RepWs w E (cs.map .rd) us.toList := by
  cases h with
  | fc ad g hl hu hI hcell hx =>
    refine ⟨_, rfl, by simpa using hl, fun j x u hj huj => ?_⟩
    rw [List.getElem?_map] at hj
    cases hc : cs[j]? with
    | none => rw [hc] at hj; cases hj
    | some xs =>
      rw [hc] at hj; cases hj
      rw [hu j u (by simpa using huj)]
      exact .rd (g j) (hI j xs hc) (fun i x hi => hcell j xs i x hc hi) fun i x hi => hx j xs i x hc hi
def vcells : V → Option (List C)
  | .c x => some [x]
  | .agg xs => some xs
  | .loc t off => some [.p t off]
  | .clo f [] ca => match rdsOf ca with
    | some cs => some [.f (.fc f cs)]
    | none => none
  | _ => none
def cN : C → V
  | .p t off => .loc t off
  | .f x => .c (.f x)
  | .o a => .c (.o a)
  | .un => .c .un
def pack (agg : Bool) (xs : List C) : V := if agg then .agg xs else match xs with
  | [x] => cN x
  | _ => .un
def frz : List C → Option (List F)
  | [] => some []
  | .f x :: r => match frz r with
    | some y => some (x :: y)
    | none => none
  | _ :: _ => none
def bin : BinOp → Value → Value → Option Value
  | .add, .int k a, .int k' b => if k = k' then some (.int k (k.wrap (a + b))) else none
  | .sub, .int k a, .int k' b => if k = k' then some (.int k (k.wrap (a - b))) else none
  | .mul, .int k a, .int k' b => if k = k' then some (.int k (k.wrap (a * b))) else none
  | .quo, .int k a, .int k' b => if k = k' ∧ b ≠ 0 then some (.int k (k.wrap (Int.tdiv a b))) else none
  | .rem, .int k a, .int k' b => if k = k' ∧ b ≠ 0 then some (.int k (Int.tmod a b)) else none
  | .shr, .int k a, .int _ b => if 0 ≤ b then some (.int k (a.fdiv (2 ^ (min b.toNat k.bits)))) else none
  | .shl, .int k a, .int _ b => if 0 ≤ b then some (.int k (k.wrap (a * 2 ^ (min b.toNat k.bits)))) else none
  | .eql, .int k a, .int k' b => if k = k' then some (.bool (a == b)) else none
  | .neq, .int k a, .int k' b => if k = k' then some (.bool (a != b)) else none
  | .lss, .int k a, .int k' b => if k = k' then some (.bool (a < b)) else none
  | .leq, .int k a, .int k' b => if k = k' then some (.bool (a ≤ b)) else none
  | .gtr, .int k a, .int k' b => if k = k' then some (.bool (a > b)) else none
  | .geq, .int k a, .int k' b => if k = k' then some (.bool (a ≥ b)) else none
  | .eql, .string a, .string b => some (.bool (a.toList == b.toList))
  | .neq, .string a, .string b => some (.bool (!(a.toList == b.toList)))
  | .lss, .string a, .string b => some (.bool (Op.bytesLess a.toList b.toList))
  | .leq, .string a, .string b => some (.bool (Op.bytesLess a.toList b.toList || a.toList == b.toList))
  | .gtr, .string a, .string b => some (.bool (!(Op.bytesLess a.toList b.toList || a.toList == b.toList)))
  | .geq, .string a, .string b => some (.bool (!(Op.bytesLess a.toList b.toList)))
  | _, _, _ => none
inductive Res where
  | put (v : V)
  | box (e : TypeId) (cs : List C)
  | mk (e : TypeId) (k : Nat) (rows : List (List F))
  | app (ko : Option Nat) (e : TypeId) (k : Nat) (rows : List (List F))
  | store (t : Nat) (e : TypeId) (cs : List C)
  | elt (a : Nat) (e : TypeId) (k : Nat) (rows : List (List F))
/-- what the code must show, what comes of it, whose memory is looked at -/
abbrev Out := Prop × Res × List Nat
def intv : V → Option (IntKind × Int)
  | .c (.f (.s (.int k n))) => some (k, n)
  | _ => none
def rowsOf : V → Option (Nat × List (List F))
  | .c (.f (.l k rows)) => some (k, rows)
  | _ => none
/-- two structs are compared: cell by cell -/
def cellEq : List C → List C → Option Bool
  | [], [] => some true
  | .f (.s (.int _ a)) :: x, .f (.s (.int _ b)) :: y => match cellEq x y with
    | some r => some (a == b && r)
    | none => none
  | .f (.s (.bool a)) :: x, .f (.s (.bool b)) :: y => match cellEq x y with
    | some r => some (a == b && r)
    | none => none
  | .f (.s (.string a)) :: x, .f (.s (.string b)) :: y => match cellEq x y with
    | some r => some (a == b && r)
    | none => none
  | _, _ => none
def valEq : List Value → List Value → Option Bool
  | [], [] => some true
  | .int _ a :: x, .int _ b :: y => match valEq x y with
    | some r => some (a == b && r)
    | none => none
  | .bool a :: x, .bool b :: y => match valEq x y with
    | some r => some (a == b && r)
    | none => none
  | .string a :: x, .string b :: y => match valEq x y with
    | some r => some (a == b && r)
    | none => none
  | _, _ => none
def kd : Value → Option Bas
  | .int k _ => some (.int k)
  | .bool _ => some .bool
  | .string _ => some .str
  | _ => none
def kdC : C → Option Bas
  | .f (.s v) => kd v
  | _ => none
/-- structs of this type, of cells of these kinds, are compared so -/
def EqOk (P : Program) (t : TypeId) (ks : List (Option Bas)) : Prop := ∀ (us vs : Array Value) (r : Bool) (w : World), us.toList.map kd = ks → vs.toList.map kd = ks → valEq us.toList vs.toList = some r → ∀ x y,
  (eqGuard .eql t x y (.agg us) (.agg vs)).run P w = .ok () w ∧ (eqGuard .neq t x y (.agg us) (.agg vs)).run P w = .ok () w ∧ (binOp .eql t (.agg us) (.agg vs)).run P w = .ok (.bool r) w ∧ (binOp .neq t (.agg us) (.agg vs)).run P w = .ok (.bool (!r)) w
/-- parts are laid into cells -/
def fillD (pls : List (Nat × Nat)) : List C → List (Nat × List C) → Option (List C)
  | acc, [] => some acc
  | acc, (i, cs) :: r => match pls[i]? with
    | some (off, size) => if cs.length = size ∧ off + cs.length ≤ acc.length then fillD pls (acc.take off ++ cs ++ acc.drop (off + cs.length)) r else none
    | none => none
def partsD (S : St) : List (Nat × Operand) → Option (List (Nat × List C))
  | [] => some []
  | (i, x) :: r => match vcells (ev S x), partsD S r with
    | some cs, some q => some ((i, cs) :: q)
    | _, _ => none
def wD : V → Option W
  | .c (.f x) => some (.f x)
  | .agg cs => match frz cs with
    | some xs => some (.agg xs)
    | none => none
  | .loc t off => some (.loc t off)
  | .rd xs => some (.rd xs)
  | _ => none
def wsD (S : St) : List Operand → Option (List W)
  | [] => some []
  | x :: r => match wD (ev S x), wsD S r with
    | some y, some ys => some (y :: ys)
    | _, _ => none
def BoolT (P : Program) (t : TypeId) : Prop := P.underlying t = some .bool
/-- such a value can be a map's key -/
def KeyOk (P : Program) (t : TypeId) (ks : List (Option Bas)) : Prop := ∀ (us : Array Value) (b : Bool) (w : World), us.toList.map kd = ks → (Instr.checkKey b 10000 t (.agg us)).run P w = .ok () w
def KeyB (P : Program) (t : TypeId) (y : Ty) : V → Prop
  | .agg xs => KeyOk P t (xs.map kdC) ∧ (xs.map kdC).all (·.isSome) = true
  | _ => y.bas.isSome = true
def effd (P : Program) (T : Nat → Option Ty) (S : St) : Op → Option Out
  | .move x => some (True, .put (ev S x), [])
  | .assign x => some (True, .put (ev S x), [])
  | .pick c a b => match ev S c with
    | .c (.f (.s (.bool t))) => some (True, .put (if t then ev S a else ev S b), [])
    | _ => none
  | .load t x => match T t, ev S x with
    | some y, .loc b off => match S.blks b with
      | some (_, cs) => some (off + y.k ≤ cs.length, .put (pack y.agg ((cs.drop off).take y.k)), [b])
      | none => none
    | some y, .rd xs => some (y.k ≤ xs.length, .put (pack y.agg ((xs.take y.k).map .f)), [])
    | some y, .el a k i off => match S.arrs a with
      | some (_, k', rows) => some (k' = k ∧ i < rows.length ∧ off + y.k ≤ k, .put (pack y.agg ((((rows.getD i []).drop off).take y.k).map .f)), [])
      | none => none
    | _, _ => none
  | .fieldAddr t x f => match T t, ev S x with
    | some y, .loc b off => match y.pls[f]? with
      | some (o, _) => some (y.agg = true, .put (.loc b (off + o)), [])
      | none => none
    | some y, .rd xs => match y.pls[f]? with
      | some (o, _) => some (y.agg = true, .put (.rd (xs.drop o)), [])
      | none => none
    | some y, .el a k i off => match y.pls[f]? with
      | some (o, _) => some (y.agg = true, .put (.el a k i (off + o)), [])
      | none => none
    | _, _ => none
  | .binOp op t x y _ => match ev S x, ev S y with
    | .c (.f (.s (.bool a))), .c (.f (.s (.bool b))) => match T t, op with
      | some y, .eql => some (y.bas = some .bool, .put (.c (.f (.s (.bool (a == b))))), [])
      | some y, .neq => some (y.bas = some .bool, .put (.c (.f (.s (.bool (!(a == b)))))), [])
      | _, _ => none
    | .c (.f (.s u)), .c (.f (.s v)) => match bin op u v with
      | some r => some (True, .put (.c (.f (.s r))), [])
      | none => none
    | .agg xs, .agg ys => match op, cellEq xs ys with
      | .eql, some r => some (EqOk P t (xs.map kdC) ∧ ys.map kdC = xs.map kdC, .put (.c (.f (.s (.bool r)))), [])
      | .neq, some r => some (EqOk P t (xs.map kdC) ∧ ys.map kdC = xs.map kdC, .put (.c (.f (.s (.bool (!r))))), [])
      | _, _ => none
    | _, _ => none
  | .unOp .not _ x => match ev S x with
    | .c (.f (.s (.bool b))) => some (True, .put (.c (.f (.s (.bool (!b))))), [])
    | _ => none
  | .unOp .neg _ x => match ev S x with
    | .c (.f (.s (.int k n))) => some (True, .put (.c (.f (.s (.int k (k.wrap (0 - n)))))), [])
    | _ => none
  | .convert src dst x => match ev S x, T src, T dst with
    | .c (.f (.s (.int _ n))), some _, some y => match y.bas with
      | some (.int k) => some (True, .put (.c (.f (.s (.int k (k.wrap n))))), [])
      | _ => none
    | _, _, _ => none
  | .extract x i => match ev S x with
    | .tup xs => match xs[i]? with
      | some (true, cs) => some (True, .put (.agg cs), [])
      | some (false, [c]) => some (True, .put (cN c), [])
      | _ => none
    | _ => none
  | .index t x i => match T t, ev S x, ev S i with
    | some y, .c (.f (.s (.string s))), .c (.f (.s (.int _ n))) => some (y.bas = some .str ∧ 0 ≤ n ∧ n < s.size, .put (.c (.f (.s (.int .u8 (s.data.getD n.toNat 0).toNat)))), [])
    | _, _, _ => none
  | .indexAddr t x i => match T t, ev S x, ev S i with
    | some y, .c (.f (.l k rows)), .c (.f (.s (.int _ n))) => match y.elem with
      | some (_, k', _) => some (k = k' ∧ 0 ≤ n ∧ n < rows.length, .put (.rd (rows.getD n.toNat [])), [])
      | none => none
    | some y, .c (.o a), .c (.f (.s (.int _ n))) => match y.elem, S.arrs a with
      | some (_, k', _), some (e, k, rows) => some (e < 1000000 ∧ k = k' ∧ 0 ≤ n ∧ n < rows.length, .put (.el a k n.toNat 0), [])
      | _, _ => none
    | _, _, _ => none
  | .slice t x (some lo) none none => match T t, ev S x, ev S lo with
    | some y, .c (.f (.l k rows)), .c (.f (.s (.int _ n))) => match y.elem with
      | some (_, k', _) => some (k = k' ∧ 0 ≤ n ∧ n ≤ rows.length, .put (.c (.f (.l k (rows.drop n.toNat)))), [])
      | none => none
    | _, _, _ => none
  | .slice t x none (some hi) none => match T t, ev S x, ev S hi with
    | some y, .c (.f (.l k rows)), .c (.f (.s (.int _ n))) => match y.elem with
      | some (_, k', _) => some (k = k' ∧ 0 ≤ n ∧ n ≤ rows.length, .put (.c (.f (.l k (rows.take n.toNat)))), [])
      | none => none
    | _, _, _ => none
  | .call c => match c.callee, c.args.toList, c.argTypes.toList with
    | .builtin .len, [x], [t] => match T t with
      | some y => match ev S x with
        | .c (.f (.l _ rows)) => some (y.elem.isSome = true, .put (.c (.f (.s (.int .i64 rows.length)))), [])
        | .c (.f (.s (.slice _ n _))) => some (y.elem.isSome = true, .put (.c (.f (.s (.int .i64 n)))), [])
        | .c (.f (.s (.string s))) => some (y.bas = some .str, .put (.c (.f (.s (.int .i64 s.size)))), [])
        | .c (.o a) => match S.arrs a with
          | some (e, _, rows) => some (e < 1000000 ∧ y.elem.isSome = true, .put (.c (.f (.s (.int .i64 rows.length)))), [a])
          | none => none
        | _ => none
      | none => none
    | .builtin .append, [s, x], [t, t'] => match T t with
      | some y => match y.elem, rowsOf (ev S x) with
        | some (e, k, b), some (k', news) => match ev S s with
          | .c (.o a) => match S.arrs a with
            | some (e', k2, rows) => some (e < 1000000 ∧ t = t' ∧ e' = e ∧ k2 = k ∧ k' = k ∧ rows.length + news.length ≤ maxLen ∧ (rows.length + news.length) * b ≤ 140737488355328, .app (some a) e k (rows ++ news), [a])
            | none => none
          | .c (.f (.s (.slice none 0 0))) => some (e < 1000000 ∧ t = t' ∧ k' = k ∧ news.length ≤ maxLen ∧ news.length * b ≤ 140737488355328, .app none e k news, [])
          | _ => none
        | _, _ => none
      | none => none
    | .builtin .min, [x, y], [_, _] => match ev S x, ev S y with
      | .c (.f (.s (.int k m))), .c (.f (.s (.int _ n))) => some (True, .put (.c (.f (.s (.int k (if n < m then n else m))))), [])
      | _, _ => none
    | .builtin .max, [x, y], [_, _] => match ev S x, ev S y with
      | .c (.f (.s (.int k m))), .c (.f (.s (.int _ n))) => some (True, .put (.c (.f (.s (.int k (if n > m then n else m))))), [])
      | _, _ => none
    | _, _, _ => none
  | .build t ps => match T t, partsD S ps.toList with
    | some y, some qs => match fillD y.pls (y.zs.map fun v => .f (.s v)) qs with
      | some cs => some (y.agg = true, .put (.agg cs), [])
      | none => none
    | _, _ => none
  | .buildSlice t n ps => match T t, ps.toList with
    | some y, [(0, x)] => match y.elem, vcells (ev S x) with
      | some (e, k, _), some cs => match frz cs with
        | some r => some (n = 1 ∧ r.length = k ∧ k ≤ 16777216, .mk e k [r], [])
        | none => none
      | _, _ => none
    | _, _ => none
  | .box e x => match vcells (ev S x) with
    | some cs => some (True, .box e cs, [])
    | none => none
  | .alloc e => match T e with
    | some y => some (True, .box e (y.zs.map fun v => .f (.s v)), [])
    | none => none
  | .store t x v => match T t, ev S x, vcells (ev S v) with
    | some y, .loc b off, some vs => match S.blks b with
      | some (e, cs) => some (vs.length = y.k ∧ off + y.k ≤ cs.length, .store b e (cs.take off ++ vs ++ cs.drop (off + y.k)), [b])
      | none => none
    | some y, .el a k i off, some vs => match S.arrs a, frz vs with
      | some (e, k', rows), some fs => some (k' = k ∧ i < rows.length ∧ off + y.k ≤ k ∧ fs.length = y.k, .elt a e k (rows.set i ((rows.getD i []).take off ++ fs ++ (rows.getD i []).drop (off + y.k))), [a])
      | _, _ => none
    | _, _, _ => none
  | .nilCheck x => match ev S x with
    | .loc b off => some (True, .put (.loc b off), [])
    | .rd xs => some (True, .put (.rd xs), [])
    | .el a k i off => some (True, .put (.el a k i off), [])
    | .clo f fi ca => some (True, .put (.clo f fi ca), [])
    | .c (.f (.s (.func (.func f) fi ca))) => some (True, .put (.c (.f (.s (.func (.func f) fi ca)))), [])
    | _ => none
  | .field t x f => match T t, ev S x with
    | some y, .agg cs => match y.pls[f]?, (y.fts[f]?).bind T with
      | some (o, _), some y2 => some (y.agg = true ∧ o + y2.k ≤ cs.length, .put (pack y2.agg ((cs.drop o).take y2.k)), [])
      | _, _ => none
    | _, _ => none
  | .makeFunc (.func f) fi ca => match wsD S fi.toList, wsD S ca.toList with
    | some x, some y => some (True, .put (.clo f x y), [])
    | _, _ => none
  | .slice t x (some lo) (some hi) none => match T t, ev S x, ev S lo, ev S hi with
    | some y, .c (.f (.l k rows)), .c (.f (.s (.int _ n))), .c (.f (.s (.int _ m))) => match y.elem with
      | some (_, k', _) => some (k = k' ∧ 0 ≤ n ∧ n ≤ m ∧ m ≤ rows.length, .put (.c (.f (.l k ((rows.drop n.toNat).take (m - n).toNat)))), [])
      | none => none
    | _, _, _, _ => none
  | .lookup t x i false => match T t, ev S x with
    | some y, .c (.o a) => match y.mp, S.arrs a with
      | some (K, V), some (e, k, []) => match T K, T V with
        | some yk, some yv => match yv.zs with
          | [z] => some (e = mtag t yk.k yk.agg yv.agg ∧ yv.agg = false ∧ KeyB P K yk (ev S i), .put (.c (.f (.s z))), [a])
          | _ => none
        | _, _ => none
      | _, _ => none
    | _, _ => none
  | _ => none

section
variable {P : Program} {X : Fr} {w0 w : World} {N : Nat} {S : St} {E : Env} {a : Act}
theorem rep_cv (v : Value) : RepV w E (cv v) v := by
  cases v with
  | agg cs =>
    by_cases h : cs.toList.all (·.oneCell') = true
    · rw [show cv (.agg cs) = .agg (cs.toList.map fun v => .f (.s v)) from if_pos h]
      refine .agg ⟨by simp, fun j x u hx hu => ?_⟩
      rw [List.getElem?_map, hu] at hx
      cases hx
      exact .f (.s (List.all_eq_true.1 h u (List.mem_of_getElem? hu)))
    · rw [show cv (.agg cs) = .un from if_neg h]
      exact .un
  | tuple => exact .un
  | _ => exact .c (.f (.s rfl))
theorem Sim.ev (h : Sim X w0 N S E a w) (x : Operand) : RepV w E (ev S x) (a.eval x) := by
  cases x with
  | tmp t => exact h.slot t
  | const v => exact rep_cv v
  | func f => exact .c (.f (.s rfl))
  | global g => exact .un
theorem rep_s {v u : Value} (h : RepV w E (.c (.f (.s v))) u) : u = v := by
  cases h with | c h => cases h with | f h => cases h with | s h => rfl
theorem Sim.ev_s (h : Sim X w0 N S E a w) {x : Operand} {v : Value} (he : Dl.ev S x = .c (.f (.s v))) : a.eval x = v := rep_s (he ▸ h.ev x)
theorem rep_s' {x : C} {u : Value} (h : RepC w E x u) : ∀ v, x = .f (.s v) → u = v := by
  intro v e
  subst e
  exact rep_s (.c h)
theorem bin_ok {op : BinOp} {u v r : Value} (h : bin op u v = some r) (t : TypeId) (x y : Operand) : r.oneCell' = true ∧ (do eqGuard op t x y u v; binOp op t u v : Sem Value).run P w = .ok r w := by
  unfold bin at h
  split at h <;> first
    | (split at h <;> first
        | (cases h; rename_i hk; subst hk; exact ⟨rfl, by simp [go_sem, binOp, Op.intArith, Op.intCmp]⟩)
        | (cases h; rename_i hk; obtain ⟨hk, hz⟩ := hk; subst hk; exact ⟨rfl, by simp [go_sem, binOp, Op.intDiv, hz]⟩)
        | (cases h; rename_i hk; exact ⟨rfl, by simp [go_sem, binOp, Op.shift, show ¬ _ < (0 : Int) from Int.not_lt.2 hk]⟩)
        | cases h)
    | (cases h; exact ⟨rfl, by simp [go_sem, binOp, Op.stringOp]⟩)
    | cases h
theorem reps_map {xs : List F} {us : List Value} (h : RepFs w E.I xs us) : Reps w E (xs.map .f) us :=
  ⟨by simpa using h.1, fun j x u hx hu => by
    rw [List.getElem?_map] at hx
    cases hj : xs[j]? with
    | none => simp [hj] at hx
    | some y => simp [hj] at hx; subst hx; exact .f (h.2 j y u hj hu)⟩
theorem Reps.at_ {xs : List C} {us : List Value} (h : Reps w E xs us) {j : Nat} {x : C} (hx : xs[j]? = some x) : ∃ u, us[j]? = some u ∧ RepC w E x u := by
  have hj : j < us.length := by rw [← h.1]; exact (List.getElem?_eq_some_iff.1 hx).1
  exact ⟨us[j], List.getElem?_eq_getElem hj, h.2 j x _ hx (List.getElem?_eq_getElem hj)⟩
theorem Reps.part {xs : List C} {us : List Value} (h : Reps w E xs us) (off k : Nat) : Reps w E ((xs.drop off).take k) ((us.drop off).take k) :=
  ⟨by simp [h.1], fun j x u hx hu => by
    rw [List.getElem?_take] at hx hu
    split at hx
    · rename_i hj
      rw [if_pos hj] at hu
      rw [List.getElem?_drop] at hx hu
      exact h.2 _ _ _ hx hu
    · cases hx⟩
theorem repN {x : C} {u : Value} (h : RepC w E x u) : RepV w E (cN x) u := by
  cases h with
  | f h => exact .c (.f h)
  | o h h1 => exact .c (.o h h1)
  | un h => exact .c (.un h)
  | p h => exact .loc h
/-- a load of k cells that are known one by one -/
theorem load_ok {t : TypeId} {y : Ty} (hy : TyOk P t y) {ad : Addr} {xs : List C} {us : List Value} (hl : xs.length = y.k) (hu : Reps w E xs us) (hc : ∀ j v, us[j]? = some v → w.cell? (ad.add j) = some v) :
    ∃ u, RepV w E (pack y.agg xs) u ∧ (loadVar t ad).run P w = .ok u w := by
  obtain ⟨d, hd, ha⟩ := hy.agg
  have hul : us.length = y.k := by rw [← hu.1, hl]
  cases hg : y.agg with
  | true =>
    rw [hg] at ha
    refine ⟨.agg us.toArray, .agg (by simpa using hu), ?_⟩
    exact run_loadVar_list (P := P) (w := w) ⟨d, hd, ha, hy.size⟩ ad us hul hc
  | false =>
    rw [hg] at ha
    have hk := hy.one hg
    match xs, hl with
    | [], hl => simp [hk] at hl
    | x :: z :: r, hl => simp [hk] at hl
    | [x], _ =>
      obtain ⟨u, hu0, hx⟩ := hu.at_ (j := 0) (x := x) rfl
      refine ⟨u, repN hx, ?_⟩
      have h0 := hc 0 u hu0
      rw [show ad.add 0 = ad by simp [Addr.add]] at h0
      have hAgg : (isAgg t).run P w = .ok false w := by
        unfold isAgg
        rw [Sem.run_bind, run_underlying hd w]
        cases d <;> simp_all [aggD]
      simp only [loadVar, Sem.run_bind, hAgg, Result.andThen_ok]
      simp [load, Sem.run, h0]
theorem add_plain (b o n : Nat) : (⟨b, o, none⟩ : Addr).add n = ⟨b, o + n, none⟩ := ed_add_plain b o n
theorem mapM_at {α β : Type} {f : α → Option β} : ∀ {l : List α} {r : List β}, l.mapM f = some r → ∀ {j : Nat} {y : β}, r[j]? = some y → ∃ x, l[j]? = some x ∧ f x = some y
  | [], r, h, j, y, hy => by simp at h; subst h; simp at hy
  | x :: l, r, h, j, y, hy => by
    simp only [List.mapM_cons, Option.bind_eq_bind, Option.pure_def] at h
    cases hx : f x with
    | none => simp [hx] at h
    | some z =>
      cases hr : l.mapM f with
      | none => simp [hx, hr] at h
      | some r' =>
        simp [hx, hr] at h
        subst h
        match j with
        | 0 => simp at hy; subst hy; exact ⟨x, rfl, hx⟩
        | j + 1 => exact mapM_at hr (by simpa using hy)
theorem field_ok {t : TypeId} {y : Ty} (hy : TyOk P t y) (hg : y.agg = true) {f o z : Nat} (ho : y.pls[f]? = some (o, z)) (ad : Addr) : (Instr.fieldAt t (.pointer (some ad)) f).run P w = .ok (.pointer (some (ad.add o))) w := by
  obtain ⟨fs, hu, hm, _, hz⟩ := hy.pls hg
  obtain ⟨fd, hfs, hfd⟩ := mapM_at hm ho
  have hne := hz _ (List.mem_of_getElem? ho)
  have hfa : fs[f]? = some fd := by simpa using hfs
  cases hi : P.info? fd.type with
  | none => simp [hi] at hfd
  | some i =>
    simp [hi] at hfd
    have h0 : i.size ≠ 0 := by rw [hfd.2]; exact hne
    simp [Instr.fieldAt, run_underlying hu, hfa, Instr.sureAddr, fieldPlace, sizeOf, typeInfo, hi, h0, hfd.1]
theorem valEq_of {xs ys : List C} {us vs : List Value} {r : Bool} (h : cellEq xs ys = some r) (hx : Reps w E xs us) (hy : Reps w E ys vs) : valEq us vs = some r := by
  induction xs generalizing ys us vs r with
  | nil =>
    cases ys with
    | nil =>
      have h1 := hx.1
      have h2 := hy.1
      cases us <;> cases vs <;> simp_all [cellEq, valEq]
    | cons _ _ => simp [cellEq] at h
  | cons x xs ih =>
    cases us with
    | nil => have := hx.1; simp at this
    | cons u us =>
      cases ys with
      | nil => cases x with
        | f x => cases x with
          | s v => cases v <;> simp [cellEq] at h
          | l => simp [cellEq] at h
          | fc => simp [cellEq] at h
        | o => simp [cellEq] at h
        | un => simp [cellEq] at h
        | p => simp [cellEq] at h
      | cons y ys =>
        cases vs with
        | nil => have := hy.1; simp at this
        | cons v vs =>
          have hx' : Reps w E xs us := ⟨by simpa using hx.1, fun j => hx.2 (j + 1)⟩
          have hy' : Reps w E ys vs := ⟨by simpa using hy.1, fun j => hy.2 (j + 1)⟩
          have hu := rep_s' (hx.2 0 x u rfl rfl)
          have hv := rep_s' (hy.2 0 y v rfl rfl)
          unfold cellEq at h
          split at h
          · rename_i e1 e2; cases e1
          all_goals first
            | (rename_i e1 e2; cases e1; cases e2; obtain rfl := hu _ rfl; obtain rfl := hv _ rfl
               split at h
               · rename_i hr; cases h; simp [valEq, ih hr hx' hy']
               · cases h)
            | cases h
theorem kind_at {x : C} {u : Value} (hx : RepC w E x u) (h : ∃ v, x = .f (.s v)) : kd u = kdC x := by
  obtain ⟨v, rfl⟩ := h
  rw [rep_s' hx v rfl]; rfl
theorem cellEq_s : ∀ {xs ys : List C} {r : Bool}, cellEq xs ys = some r → (∀ x ∈ xs, ∃ v, x = .f (.s v)) ∧ ∀ y ∈ ys, ∃ v, y = .f (.s v) := by
  intro xs
  induction xs with
  | nil =>
    intro ys r h
    cases ys with
    | nil => exact ⟨fun x hx => (by simp at hx), fun x hx => (by simp at hx)⟩
    | cons _ _ => simp [cellEq] at h
  | cons x xs ih =>
    intro ys r h
    cases ys with
    | nil => cases x with
      | f x => cases x with
        | s v => cases v <;> simp [cellEq] at h
        | l => simp [cellEq] at h
        | fc => simp [cellEq] at h
      | o => simp [cellEq] at h
      | un => simp [cellEq] at h
      | p => simp [cellEq] at h
    | cons y ys =>
    unfold cellEq at h
    split at h
    · rename_i e1 e2; cases e1
    all_goals first
      | (rename_i e1 e2; cases e1; cases e2
         split at h
         · rename_i hr
           obtain ⟨h1, h2⟩ := ih hr
           refine ⟨fun z hz => ?_, fun z hz => ?_⟩
           · rcases List.mem_cons.1 hz with rfl | hz
             · exact ⟨_, rfl⟩
             · exact h1 z hz
           · rcases List.mem_cons.1 hz with rfl | hz
             · exact ⟨_, rfl⟩
             · exact h2 z hz
         · cases h)
      | cases h
theorem kinds_all : ∀ {xs : List C} {us : List Value}, (∀ x ∈ xs, ∃ v, x = .f (.s v)) → Reps w E xs us → us.map kd = xs.map kdC
  | [], us, _, hx => by
    have := hx.1
    cases us with
    | nil => rfl
    | cons _ _ => simp at this
  | x :: xs, us, h, hx => by
    match us, hx with
    | [], hx => have := hx.1; simp at this
    | u :: us, hx =>
      rw [List.map_cons, List.map_cons, kind_at (hx.2 0 x u rfl rfl) (h x (List.mem_cons_self ..)), kinds_all (fun z hz => h z (List.mem_cons_of_mem _ hz)) (⟨by simpa using hx.1, fun j => hx.2 (j + 1)⟩ : Reps w E xs us)]
theorem kinds_of {xs ys : List C} {us : List Value} {r : Bool} (h : cellEq xs ys = some r) (hx : Reps w E xs us) : us.map kd = xs.map kdC := kinds_all (cellEq_s h).1 hx
theorem kinds_of' {xs ys : List C} {us : List Value} {r : Bool} (h : cellEq xs ys = some r) (hx : Reps w E ys us) : us.map kd = ys.map kdC := kinds_all (cellEq_s h).2 hx
theorem flat_get {α : Type} {k : Nat} : ∀ {rows : List (List α)} (_ : ∀ r ∈ rows, r.length = k) {n : Nat} (hn : n < rows.length) {j : Nat} (_ : j < k), rows.flatten[n * k + j]? = rows[n][j]?
  | [], _, n, hn, _, _ => absurd hn (by simp)
  | r :: rows, hk, 0, _, j, hj => by
    have := hk r (List.mem_cons_self ..)
    simp only [List.flatten_cons, Nat.zero_mul, Nat.zero_add, List.getElem_cons_zero]
    rw [List.getElem?_append_left (by omega)]
  | r :: rows, hk, n + 1, hn, j, hj => by
    have := hk r (List.mem_cons_self ..)
    simp only [List.flatten_cons, List.getElem_cons_succ]
    rw [List.getElem?_append_right (by rw [this, Nat.succ_mul]; omega), this, show (n + 1) * k + j - k = n * k + j by rw [Nat.succ_mul]; omega]
    exact flat_get (fun r hr => hk r (List.mem_cons_of_mem _ hr)) (by simpa using hn) hj
theorem flat_len {α : Type} {k : Nat} : ∀ {rows : List (List α)} (_ : ∀ r ∈ rows, r.length = k), rows.flatten.length = rows.length * k
  | [], _ => by simp
  | r :: rows, hk => by
    have := hk r (List.mem_cons_self ..)
    simp only [List.flatten_cons, List.length_append, List.length_cons, this]
    rw [flat_len (rows := rows) fun r hr => hk r (List.mem_cons_of_mem _ hr), Nat.succ_mul]; omega
/-- the form of a slice's value -/
theorem slice_form {k : Nat} {rows : List (List F)} {u : Value} {I : Nat → Prop} (h : RepF w I (.l k rows) u) : ∃ A c, u = .slice A rows.length c ∧ rows.length ≤ c ∧
    (0 < rows.length → ∃ (ad : Addr) (us : Nat → Value), A = some ad ∧ I ad.block ∧ (∀ r ∈ rows, r.length = k) ∧ (∀ (j : Nat) x, rows.flatten[j]? = some x → w.cell? (ad.add j) = some (us j)) ∧ ∀ (j : Nat) x, rows.flatten[j]? = some x → RepF w I x (us j)) := by
  cases h with
  | e => exact ⟨_, _, rfl, Nat.zero_le _, fun h => absurd h (by simp)⟩
  | l us hl hn hk hc hI hcell hx => subst hl; exact ⟨_, _, rfl, hc, fun _ => ⟨_, us, rfl, hI, hk, hcell, hx⟩⟩
theorem slice_make {k : Nat} {rows : List (List F)} {A : Option Addr} {c : Nat} {I : Nat → Prop} (hc : rows.length ≤ c)
    (h : 0 < rows.length → ∃ (ad : Addr) (us : Nat → Value), A = some ad ∧ I ad.block ∧ (∀ r ∈ rows, r.length = k) ∧ (∀ (j : Nat) x, rows.flatten[j]? = some x → w.cell? (ad.add j) = some (us j)) ∧ ∀ (j : Nat) x, rows.flatten[j]? = some x → RepF w I x (us j)) : RepF w I (.l k rows) (.slice A rows.length c) := by
  rcases Nat.eq_zero_or_pos rows.length with h0 | h0
  · have : rows = [] := List.eq_nil_of_length_eq_zero h0
    subst this
    exact .e
  · obtain ⟨ad, us, rfl, hI, hk, hcell, hx⟩ := h h0
    exact .l us rfl h0 hk hc hI hcell hx
theorem elem_eq {t e : TypeId} (h : P.underlying t = some (.slice e)) : P.elem t = e := by simp [Program.elem, h]
theorem elem_size {t e : TypeId} {k : Nat} (hu1 : P.underlying t = some (.slice e)) (hu2 : (P.info? e).map (·.size) = some k) : ((sizeOf (P.elem t)).run P w) = .ok k w := by
  rw [elem_eq hu1]
  cases hq : P.info? e with
  | none => simp [hq] at hu2
  | some i => simp [hq] at hu2; simp [sizeOf, typeInfo, hq, hu2]
theorem slice_drop {k : Nat} {rows : List (List F)} {A : Option Addr} {c n : Nat} {I : Nat → Prop} (h : RepF w I (.l k rows) (.slice A rows.length c)) (hn : n ≤ rows.length) :
    RepF w I (.l k (rows.drop n)) (.slice (if c = n then A else A.map (·.add (n * k))) (rows.length - n) (c - n)) := by
  obtain ⟨A', c', e, hc, hf⟩ := slice_form h
  cases e
  rw [← List.length_drop]
  refine slice_make (by rw [List.length_drop]; omega) fun h0 => ?_
  rw [List.length_drop] at h0
  obtain ⟨ad, us, rfl, hI, hk, hcell, hx⟩ := hf (by omega)
  rw [if_neg (by omega)]
  have key : ∀ (j : Nat), (rows.drop n).flatten[j]? = rows.flatten[n * k + j]? := fun j => by
    have h1 : rows.flatten = (rows.take n).flatten ++ (rows.drop n).flatten := by rw [← List.flatten_append, List.take_append_drop]
    have h2 : (rows.take n).flatten.length = n * k := by rw [flat_len fun r hr => hk r (List.mem_of_mem_take hr), List.length_take, Nat.min_eq_left hn]
    rw [h1, List.getElem?_append_right (by omega), h2, Nat.add_sub_cancel_left]
  refine ⟨ad.add (n * k), fun j => us (n * k + j), rfl, by rw [block_of_add]; exact hI, fun r hr => hk r (List.mem_of_mem_drop hr), fun j x hj => ?_, fun j x hj => ?_⟩
  · rw [add_of_add]; rw [key] at hj; exact hcell _ x hj
  · rw [key] at hj; exact hx _ x hj
theorem slice_take {k : Nat} {rows : List (List F)} {A : Option Addr} {c n : Nat} {I : Nat → Prop} (h : RepF w I (.l k rows) (.slice A rows.length c)) (hn : n ≤ rows.length) :
    RepF w I (.l k (rows.take n)) (.slice A n c) := by
  obtain ⟨A', c', e, hc, hf⟩ := slice_form h
  cases e
  have hl : (rows.take n).length = n := by rw [List.length_take, Nat.min_eq_left hn]
  have := slice_make (w := w) (k := k) (rows := rows.take n) (A := A) (c := c) (I := I) (by omega) fun h0 => by
    obtain ⟨ad, us, rfl, hI, hk, hcell, hx⟩ := hf (by omega)
    have key : ∀ (j : Nat) x, (rows.take n).flatten[j]? = some x → rows.flatten[j]? = some x := fun j x hj => by
      have h1 : rows.flatten = (rows.take n).flatten ++ (rows.drop n).flatten := by rw [← List.flatten_append, List.take_append_drop]
      rw [h1, List.getElem?_append_left (List.getElem?_eq_some_iff.1 hj).1]
      exact hj
    exact ⟨ad, us, rfl, hI, fun r hr => hk r (List.mem_of_mem_take hr), fun j x hj => hcell j x (key j x hj), fun j x hj => hx j x (key j x hj)⟩
  rwa [hl] at this
theorem slice_mid {k : Nat} {rows : List (List F)} {A : Option Addr} {c n m : Nat} {I : Nat → Prop} (h : RepF w I (.l k rows) (.slice A rows.length c)) (hn : n ≤ m) (hm : m ≤ rows.length) :
    RepF w I (.l k ((rows.drop n).take (m - n))) (.slice (if c = n then A else A.map (·.add (n * k))) (m - n) (c - n)) := by
  have h1 := slice_drop h (n := n) (by omega)
  rw [← List.length_drop] at h1
  exact slice_take h1 (by rw [List.length_drop]; omega)
/-- an element's address -/
theorem slice_at {k : Nat} {rows : List (List F)} {A : Option Addr} {c : Nat} (h : RepF w E.I (.l k rows) (.slice A rows.length c)) {n : Nat} (hn : n < rows.length) : ∃ ad, A = some ad ∧ RepV w E (.rd (rows.getD n [])) (.pointer (some (ad.add (n * k)))) := by
  obtain ⟨A', c', e, hc, hf⟩ := slice_form h
  cases e
  obtain ⟨ad, us, rfl, hI, hk, hcell, hx⟩ := hf (by omega)
  have hg : rows.getD n [] = rows[n] := by simp [List.getD, List.getElem?_eq_getElem hn]
  rw [hg]
  have key : ∀ (j : Nat) x, rows[n][j]? = some x → rows.flatten[n * k + j]? = some x := fun j x hj => by
    rw [flat_get hk hn (by rw [← hk _ (List.getElem_mem hn)]; exact (List.getElem?_eq_some_iff.1 hj).1)]
    exact hj
  refine ⟨ad, rfl, .rd (fun j => us (n * k + j)) (by rw [block_of_add]; exact hI) (fun j x hj => ?_) fun j x hj => ?_⟩
  · rw [add_of_add]; exact hcell _ x (key j x hj)
  · exact hx _ x (key j x hj)
theorem one_all {w : World} {E : Env} {xs : List C} {us : List Value} (h : Reps w E xs us) : ∀ v ∈ us, v.oneCell' = true := fun v hv => by
  obtain ⟨j, hj, rfl⟩ := List.getElem_of_mem hv
  have hx : j < xs.length := by rw [h.1]; exact hj
  exact (h.2 j _ _ (List.getElem?_eq_getElem hx) (List.getElem?_eq_getElem hj)).one
theorem vcells_ok {v : V} {u : Value} {cs : List C} (h : RepV w E v u) (hc : vcells v = some cs) : Reps w E cs u.cells.toList := by
  cases h with
  | c h =>
    cases hc
    have h1 := h.one
    have : u.cells = #[u] := by cases u <;> first | rfl | (simp [Value.oneCell'] at h1)
    rw [this]
    refine ⟨rfl, fun j x v hx hv => ?_⟩
    match j with
    | 0 => simp at hx hv; subst hx; subst hv; exact h
    | j + 1 => simp at hx
  | agg h => cases hc; exact h
  | loc h =>
    cases hc
    refine ⟨rfl, fun j x v hx hv => ?_⟩
    match j with
    | 0 => cases hx; cases hv; exact .p h
    | j + 1 => simp at hx
  | @clo f fi ca us vs h1 h2 =>
    cases fi with
    | cons _ _ => cases hc
    | nil =>
      simp only [vcells] at hc
      split at hc
      · rename_i cs hq
        cases hc
        have e := rdsOf_eq hq
        subst e
        have hus : us = #[] := Array.eq_empty_of_size_eq_zero (by have := h1.1; simpa using this.symm)
        subst hus
        refine ⟨rfl, fun j x v hx hv => ?_⟩
        match j with
        | 0 => cases hx; cases hv; exact .f (fc_of h2)
        | j + 1 => simp at hx
      · cases hc
  | _ => cases hc
theorem reps_lit (vs : List Value) (h : ∀ v ∈ vs, v.oneCell' = true) : Reps w E (vs.map fun v => .f (.s v)) vs :=
  ⟨by simp, fun j x u hx hu => by
    rw [List.getElem?_map, hu] at hx
    cases hx
    exact .f (.s (h u (List.mem_of_getElem? hu)))⟩
theorem fold_set (off : Nat) : ∀ (vs : List Value) (k : Nat) (cs : Array Value), off + k + vs.length ≤ cs.size →
    ((vs.zipIdx k).foldl (fun cs p => cs.setIfInBounds (off + p.2) p.1) cs).toList = cs.toList.take (off + k) ++ vs ++ cs.toList.drop (off + k + vs.length)
  | [], k, cs, h => by simp
  | v :: vs, k, cs, h => by
    have h : off + k + (vs.length + 1) ≤ cs.size := h
    rw [List.zipIdx_cons, List.foldl_cons, fold_set off vs (k + 1) _ (by simp; omega)]
    have h1 : off + k < cs.toList.length := by simp; omega
    simp only [Array.toList_setIfInBounds, List.length_cons]
    rw [show off + (k + 1) = off + k + 1 by omega, List.take_set, List.drop_set_of_lt (by omega), List.take_add_one, List.getElem?_eq_getElem h1, Option.toList_some, List.set_append_right _ _ (by rw [List.length_take]; omega)]
    rw [List.length_take, Nat.min_eq_left (by omega), Nat.sub_self]
    simp [show off + k + 1 + vs.length = off + k + (vs.length + 1) by omega]
theorem over_reps {E : Env} {w : World} {xs cs : List C} {us vs : List Value} (hx : Reps w E xs us) (hc : Reps w E cs vs) (off : Nat) (h : off + cs.length ≤ xs.length) : Reps w E (xs.take off ++ cs ++ xs.drop (off + cs.length)) (us.take off ++ vs ++ us.drop (off + vs.length)) := by
  have hl := hx.1
  have hl2 := hc.1
  refine ⟨by simp [hl, hl2], fun j x u hxj huj => ?_⟩
  have hl1 : (xs.take off).length = off := by rw [List.length_take]; omega
  have hl3 : (us.take off).length = off := by rw [List.length_take]; omega
  by_cases h1 : j < off
  · rw [List.append_assoc, List.getElem?_append_left (by omega), List.getElem?_take, if_pos h1] at hxj huj
    exact hx.2 j x u hxj huj
  · by_cases h2 : j < off + cs.length
    · rw [List.append_assoc, List.getElem?_append_right (by omega), List.getElem?_append_left (by omega)] at hxj huj
      rw [hl1] at hxj
      rw [hl3] at huj
      exact hc.2 _ x u hxj huj
    · rw [List.getElem?_append_right (by simp only [List.length_append, hl1]; omega), List.getElem?_drop] at hxj
      rw [List.getElem?_append_right (by simp only [List.length_append, hl3]; omega), List.getElem?_drop] at huj
      rw [List.length_append, hl1] at hxj
      rw [List.length_append, hl3, ← hl2] at huj
      exact hx.2 _ x u hxj huj
theorem fill_ok {pls : List (Nat × Nat)} (hs : Sim X w0 N S E a w) : ∀ (ps : List (Nat × Operand)) {qs : List (Nat × List C)} {xs : List C} {us : Array Value} {cs : List C}, partsD S ps = some qs → Reps w E xs us.toList → fillD pls xs qs = some cs →
    ∃ vs : Array Value, Instr.fill (pls.toArray[·]?) us (ps.map fun p => (p.1, a.eval p.2)) = some vs ∧ Reps w E cs vs.toList
  | [], qs, xs, us, cs, hq, hx, hf => by cases hq; cases hf; exact ⟨us, rfl, hx⟩
  | (i, x) :: ps, qs, xs, us, cs, hq, hx, hf => by
    unfold partsD at hq
    split at hq <;> cases hq
    rename_i c q hc hq
    have hv := vcells_ok (hs.ev x) hc
    unfold fillD at hf
    split at hf
    · rename_i off size hp
      split at hf
      · rename_i hle
        have hl := hx.1
        simp only [Array.length_toList] at hl
        have hvl : (a.eval x).cells.size = c.length := by have := hv.1; simpa using this.symm
        have hst : ((a.eval x).cells.zipIdx.foldl (fun cs p => cs.setIfInBounds (off + p.2) p.1) us).toList = us.toList.take off ++ (a.eval x).cells.toList ++ us.toList.drop (off + (a.eval x).cells.toList.length) := by
          rw [← Array.foldl_toList, Array.toList_zipIdx]
          have := fold_set off (a.eval x).cells.toList 0 us (by simp; omega)
          simpa using this
        obtain ⟨vs, h1, h2⟩ := fill_ok hs ps hq (by rw [hst]; exact over_reps hx hv off (by omega)) hf
        refine ⟨vs, ?_, h2⟩
        simp only [List.map_cons, Instr.fill]
        have hp' : pls.toArray[i]? = some (off, size) := by simpa using hp
        rw [hp']
        simp only
        have hc1 : ¬ ((a.eval x).cells.size ≠ size) := by rw [hvl]; simp [hle.1]
        have hc2 : ¬ (off + (a.eval x).cells.size > us.size) := by omega
        simp only [hc1, hc2, decide_false, Bool.or_false, Bool.false_eq_true, if_false]
        exact h1
      · cases hf
    · cases hf
theorem frz_ok {E : Env} {w : World} : ∀ {cs : List C} {r : List F} {us : List Value}, frz cs = some r → Reps w E cs us → RepFs w E.I r us ∧ cs = r.map .f
  | [], r, us, h, hr => by cases h; exact ⟨⟨hr.1, fun j x u hx => by simp at hx⟩, rfl⟩
  | c :: cs, r, us, h, hr => by
    cases c with
    | o => simp [frz] at h
    | un => simp [frz] at h
    | p => simp [frz] at h
    | f x =>
      unfold frz at h
      split at h <;> cases h
      rename_i y hy
      match us, hr with
      | [], hr => have := hr.1; simp at this
      | u :: us, hr =>
        obtain ⟨h1, h2⟩ := frz_ok hy (⟨by simpa using hr.1, fun j => hr.2 (j + 1)⟩ : Reps w E cs us)
        have h0 := hr.2 0 _ u rfl rfl
        cases h0 with
        | f h0 =>
          refine ⟨⟨by simpa using h1.1, fun j z v hz hv => ?_⟩, by rw [h2]; rfl⟩
          match j with
          | 0 => simp at hz hv; subst hz; subst hv; exact h0
          | j + 1 => exact h1.2 j z v (by simpa using hz) (by simpa using hv)
/-- a new block that stays -/
theorem wsD_ok (hs : Sim X w0 N S E a w) : ∀ {ps : List Operand} {ws : List W}, wsD S ps = some ws → RepWs w E ws (ps.map a.eval)
  | [], ws, h => by cases h; exact ⟨rfl, fun j x u hx => by simp at hx⟩
  | p :: ps, ws, h => by
    unfold wsD at h
    split at h <;> cases h
    rename_i y ys hy hys
    have ih := wsD_ok hs hys
    have hv := hs.ev p
    refine ⟨by simp [ih.1], fun j x u hx hu => ?_⟩
    match j with
    | j + 1 => exact ih.2 j x u (by simpa using hx) (by simpa using hu)
    | 0 =>
      simp at hx hu
      subst hx; subst hu
      generalize ev S p = v at hy hv
      generalize a.eval p = u0 at hv
      unfold wD at hy
      split at hy
      · cases hy; cases hv with | c hv => cases hv with | f hv => exact .f hv
      · split at hy <;> cases hy
        rename_i xs hxs
        cases hv with | agg hv => exact .agg (frz_ok hxs hv).1
      · cases hy; cases hv with | loc hv => exact .loc hv
      · cases hy; cases hv with | rd us h1 h2 h3 => exact .rd us h1 h2 h3
      · cases hy
theorem wsD_okA (hs : Sim X w0 N S E a w) {ps : Array Operand} {ws : List W} (h : wsD S ps.toList = some ws) : RepWs w E ws (ps.map a.eval).toList := by
  rw [Array.toList_map]; exact wsD_ok hs h
/-- an array of the call's own, cell by cell -/
theorem arr_at (hs : Sim X w0 N S E a w) {c : Nat} {e : TypeId} {k : Nat} {rows : List (List F)} {ad : Addr} {n cap : Nat} (hb : S.arrs c = some (e, k, rows)) (hL : E.L c = some (.slice (some ad) n cap)) :
    ∃ us : List Value, rows.flatten.length = us.length ∧ (∀ (j : Nat) x u, rows.flatten[j]? = some x → us[j]? = some u → RepF w E.I x u) ∧ ∀ (j : Nat) u, us[j]? = some u → w.cell? (ad.add j) = some u := by
  obtain ⟨v, us, hL', hown, hrep, hkk, _⟩ := hs.arr _ _ _ _ hb
  rw [hL] at hL'; cases hL'
  rcases hown.sl.2.2 with ⟨hv, h0⟩ | ⟨g, cap', cur, hv, hb', hg, hn, hcap, hsz, htake⟩
  · cases hv
  · cases hv
    refine ⟨us, hrep.1, hrep.2, fun j u hu => ?_⟩
    have hB : Blk w g e cur := hg
    have hj : j < us.length := (List.getElem?_eq_some_iff.1 hu).1
    rw [add_plain, Nat.zero_add, hB.cell, ← Array.getElem?_toList]
    rw [← htake, List.getElem?_take] at hu
    split at hu
    · exact hu
    · cases hu
theorem exec_val {o : Oper} {s : Sem Value} {u : Value} (h : execOp a.eval o = (do pure (.value (← s)))) (hr : s.run P w = .ok u w) : (execOp a.eval o).run P w = .ok (.value u) w := by
  rw [h]; simp [hr]
theorem goInt_eq (n : Nat) : goInt n = .int .i64 (n : Int) := rfl
set_option maxHeartbeats 1000000 in
theorem key_run {K : TypeId} {yk : Ty} (hk : TyOk P K yk) {x : V} {z : Value} (hkey : KeyB P K yk x) (hz : RepV w E x z) (b : Bool) : (Instr.checkKey b 10000 K z).run P w = .ok () w := by
  cases hz with
  | agg h =>
    rename_i xs us
    obtain ⟨h1, h2⟩ := hkey
    refine h1 us b w ?_
    refine List.ext_getElem? fun j => ?_
    rw [List.getElem?_map, List.getElem?_map]
    cases hx : xs[j]? with
    | none =>
      have : us.toList[j]? = none := List.getElem?_eq_none (by rw [← h.1]; exact List.getElem?_eq_none_iff.1 hx)
      rw [this]; rfl
    | some c =>
      obtain ⟨u, hu, hr⟩ := h.at_ hx
      rw [hu]
      have h3 := List.all_eq_true.1 h2 (kdC c) (List.mem_map.2 ⟨c, List.mem_of_getElem? hx, rfl⟩)
      cases hr with
      | f hr => cases hr with
        | s _ => rfl
        | _ => cases h3
      | _ => cases h3
  | _ =>
    all_goals
      have hb : yk.bas.isSome = true := hkey
      cases hq : yk.bas with
      | none => rw [hq] at hb; cases hb
      | some d =>
        have hu := hk.bas _ hq
        show (Instr.checkKey b (9999 + 1) K _).run P w = .ok () w
        rw [Instr.checkKey, Sem.run_bind, run_underlying hu w]
        cases d <;> rfl
theorem lookup_nil {T : Nat → Option Ty} (hT : ∀ t y, T t = some y → TyOk P t y) {t K V : TypeId} {y yk yv : Ty} (hy : T t = some y) (hm : y.mp = some (K, V)) (hk : T K = some yk) (hv : T V = some yv) {x i : Operand} {c k : Nat} (hc : S.arrs c = some (mtag t yk.k yk.agg yv.agg, k, []))
    (hx : Dl.ev S x = .c (.o c)) (hkey : KeyB P K yk (Dl.ev S i)) {z : Value} (hz : yv.zs = [z]) (hg : yv.agg = false) (hs : Sim X w0 N S E a w) (o : Oper) (ho : o.op = .lookup t x i false) : ∃ u, RepV w E (.c (.f (.s z))) u ∧ (execOp a.eval o).run P w = .ok (.value u) w := by
  have hu := (hT _ _ hy).mp _ _ hm
  have hx' := hx ▸ hs.ev x
  have hck := key_run (hT _ _ hk) hkey (hs.ev i)
  generalize hux : a.eval x = u at hx'
  cases hx' with
  | c hx' => cases hx' with
    | o hL _ =>
      obtain ⟨v, us, hv', hown, _⟩ := hs.arr _ _ _ _ hc
      rw [hL] at hv'; cases hv'
      rcases hown with ⟨hlt, _⟩ | ⟨t', kn, ka, va, _, _, b, es, cl, rfl, _, hh, hsz, _⟩
      · exact absurd hlt (Nat.not_lt.2 (mtag_le _ _ _ _))
      · have hes : es = #[] := Array.eq_empty_of_size_eq_zero hsz
        subst hes
        obtain ⟨zv, hz1, hz2, hz3⟩ := (hT _ _ hv).zero
        have h1 := hz3 hg
        have hzz : zv = z := by
          rw [hz] at hz2
          have : zv.cells = #[zv] := by cases zv <;> first | rfl | (simp [Value.oneCell'] at h1)
          rw [this] at hz2; simpa using hz2
        subst hzz
        have hzero : (zeroValue V).run P w = .ok zv w := by
          cases hi0 : P.info? V with
          | none => rw [hi0] at hz1; cases hz1
          | some j =>
            rw [hi0] at hz1
            have hz1 : j.zero = some zv := hz1
            simp [zeroValue, typeInfo, hi0, hz1]
        have hkd : ∃ d, P.underlying K = some d := (hT _ _ hk).agg.imp fun d h => h.1
        obtain ⟨d, hd⟩ := hkd
        refine ⟨zv, .c (.f (.s h1)), exec_val (s := Instr.lookup t (a.eval x) (a.eval i) false) (by simp only [execOp, ho]) ?_⟩
        rw [hux]
        have hgo : (getObj b).run P w = .ok (.map #[] cl) w := by simp [getObj, Sem.run, hh]
        simp [Instr.lookup, run_underlying hu, hgo, hck true, Instr.findKey, Instr.findNow, run_underlying hd, hzero]
theorem eff_put {T : Nat → Option Ty} (hT : ∀ t y, T t = some y → TyOk P t y) {op : Op} {p : Prop} {v : V} {rn : List Nat} (h : effd P T S op = some (p, .put v, rn)) (hp : p) (hs : Sim X w0 N S E a w) (o : Oper) (ho : o.op = op) :
    ∃ u, RepV w E v u ∧ (execOp a.eval o).run P w = .ok (.value u) w := by
  subst ho
  obtain ⟨dst, op, type, pos, after, guard⟩ := o
  simp only at h ⊢
  unfold effd at h
  split at h
  case h_1 x => cases h; exact ⟨_, hs.ev x, rfl⟩
  case h_2 x => cases h; exact ⟨_, hs.ev x, rfl⟩
  case h_3 c x y =>
    split at h
    · rename_i t hc
      cases h
      have e := hs.ev_s hc
      cases t
      · exact ⟨_, hs.ev y, by simp [execOp, e, asBool]⟩
      · exact ⟨_, hs.ev x, by simp [execOp, e, asBool]⟩
    · cases h
  case h_4 t x =>
    split at h
    · rename_i y b off hy hx
      split at h
      · rename_i e cs hb
        cases h
        have hx' := hx ▸ hs.ev x
        generalize hu : a.eval x = u at hx'
        cases hx' with
        | loc hB =>
          obtain ⟨b', vs, hB', hblk, hreps, _⟩ := hs.blk _ _ _ hb
          rw [hB] at hB'; cases hB'
          obtain ⟨u, h1, h2⟩ := load_ok (P := P) (w := w) (hT _ _ hy) (ad := ⟨_, off, none⟩) (xs := (cs.drop off).take y.k) (us := (vs.toList.drop off).take y.k) (by simp; omega) (hreps.part _ _) fun j v hv => by
            rw [add_plain, hblk.cell]
            rw [List.getElem?_take] at hv
            split at hv
            · rw [List.getElem?_drop] at hv; simpa using hv
            · cases hv
          exact ⟨u, h1, exec_val rfl (by simp [Instr.loadAt, hu, Instr.sureAddr, h2])⟩
      · cases h
    · rename_i y xs hy hx
      cases h
      have hx' := hx ▸ hs.ev x
      generalize hu : a.eval x = u at hx'
      cases hx' with
      | @rd _ ad us hI hcell hxx =>
        obtain ⟨u, h1, h2⟩ := load_ok (P := P) (w := w) (E := E) (hT _ _ hy) (ad := ad) (xs := (xs.take y.k).map .f) (us := (List.range y.k).map us) (by simp; omega) (reps_map ⟨by simp; omega, fun j x u hx hu => by
            rw [List.getElem?_take] at hx
            split at hx
            · rename_i hj
              simp [hj] at hu
              subst hu
              exact hxx j x hx
            · cases hx⟩) fun j v hv => by
          have hj : j < y.k := by
            rcases Nat.lt_or_ge j y.k with h | h
            · exact h
            · rw [List.getElem?_eq_none (by simpa using h)] at hv; cases hv
          simp [hj] at hv
          subst hv
          have hj2 : j < xs.length := by omega
          exact hcell j xs[j] (List.getElem?_eq_getElem hj2)
        exact ⟨u, h1, exec_val rfl (by simp [Instr.loadAt, hu, Instr.sureAddr, h2])⟩
    · rename_i y ar k i off hy hx
      split at h
      · rename_i e k' rows hb
        cases h
        obtain ⟨rfl, hi, hoff⟩ := hp
        have hx' := hx ▸ hs.ev x
        generalize hu : a.eval x = u at hx'
        cases hx' with
        | @el _ _ _ _ n c ad hL =>
          obtain ⟨us, hlen, hrep, hcell⟩ := arr_at hs hb hL
          have hrk : ∀ r ∈ rows, r.length = k' := by obtain ⟨_, _, _, _, _, h, _⟩ := hs.arr _ _ _ _ hb; exact h
          have hkk : ∀ j, j < y.k → (rows.getD i [])[off + j]? = rows.flatten[i * k' + (off + j)]? := fun j hj => by
            rw [List.getD_eq_getElem?_getD, List.getElem?_eq_getElem hi]
            exact (flat_get hrk hi (by omega)).symm
          have hflen : i * k' + k' ≤ rows.flatten.length := by
            rw [flat_len hrk, ← Nat.succ_mul]
            exact Nat.mul_le_mul_right _ hi
          have hrl : (rows.getD i []).length = k' := by
            rw [List.getD_eq_getElem?_getD, List.getElem?_eq_getElem hi]
            exact hrk _ (List.getElem_mem hi)
          obtain ⟨u, h1, h2⟩ := load_ok (P := P) (w := w) (E := E) (hT _ _ hy) (ad := ad.add (i * k' + off)) (xs := (((rows.getD i []).drop off).take y.k).map .f) (us := (List.range y.k).map fun j => us.getD (i * k' + (off + j)) undef) (by simp [-List.getD_eq_getElem?_getD, hrl]; omega) (reps_map ⟨by simp [-List.getD_eq_getElem?_getD, hrl]; omega, fun j x u hx hu => by
              rw [List.getElem?_take] at hx
              split at hx
              · rename_i hj
                simp [hj] at hu
                subst hu
                rw [List.getElem?_drop, hkk j hj] at hx
                have hjl : i * k' + (off + j) < us.length := by rw [← hlen]; omega
                have := hrep (i * k' + (off + j)) x us[i * k' + (off + j)] hx (List.getElem?_eq_getElem hjl)
                simpa [List.getElem?_eq_getElem hjl] using this
              · cases hx⟩) fun j v hv => by
            have hj : j < y.k := by
              rcases Nat.lt_or_ge j y.k with h | h
              · exact h
              · rw [List.getElem?_eq_none (by simpa using h)] at hv; cases hv
            simp [hj] at hv
            have hjl : i * k' + (off + j) < us.length := by rw [← hlen]; omega
            rw [List.getElem?_eq_getElem hjl] at hv
            simp only [Option.getD_some] at hv
            subst hv
            rw [add_of_add, show i * k' + off + j = i * k' + (off + j) by omega]
            exact hcell _ _ (List.getElem?_eq_getElem hjl)
          exact ⟨u, h1, exec_val rfl (by simp [Instr.loadAt, hu, Instr.sureAddr, h2])⟩
      · cases h
    · cases h
  case h_5 t x f =>
    split at h
    · rename_i y b off hy hx
      split at h
      · rename_i o z ho
        cases h
        have hx' := hx ▸ hs.ev x
        generalize hu : a.eval x = u at hx'
        cases hx' with
        | @loc _ _ b' hB => exact ⟨_, .loc hB, exec_val rfl (by rw [hu, field_ok (hT _ _ hy) hp ho, add_plain])⟩
      · cases h
    · rename_i y xs hy hx
      split at h
      · rename_i o z ho
        cases h
        have hx' := hx ▸ hs.ev x
        generalize hu : a.eval x = u at hx'
        cases hx' with
        | @rd _ ad us hI hcell hxx =>
          refine ⟨_, .rd (ad := ad.add o) (fun j => us (o + j)) (by rw [block_of_add]; exact hI) (fun j x hj => ?_) (fun j x hj => ?_), exec_val rfl (by rw [hu, field_ok (hT _ _ hy) hp ho])⟩
          · rw [List.getElem?_drop] at hj; rw [add_of_add]; exact hcell _ x hj
          · rw [List.getElem?_drop] at hj; exact hxx _ x hj
      · cases h
    · rename_i y ar k i off hy hx
      split at h
      · rename_i o z ho
        cases h
        have hx' := hx ▸ hs.ev x
        generalize hu : a.eval x = u at hx'
        cases hx' with
        | @el _ _ _ _ n c ad hL =>
          refine ⟨_, .el hL, exec_val rfl ?_⟩
          rw [hu, field_ok (hT _ _ hy) hp ho, add_of_add, Nat.add_assoc]
      · cases h
    · cases h
  case h_6 op t x y yt =>
    split at h
    · rename_i u v hx hy
      have e1 := hs.ev_s hx
      have e2 := hs.ev_s hy
      split at h <;> cases h
      all_goals
        rename_i y hy
        have eb : (Op.equal t (.bool u) (.bool v)).run P w = .ok (u == v) w := run_equalIn_bool w 9999 t u v ((hT _ _ hy).bas _ hp)
      · exact ⟨_, .c (.f (.s rfl)), exec_val rfl (by simp only [e1, e2, eqGuard_at_bool, binOp]; simp [eb])⟩
      · exact ⟨_, .c (.f (.s rfl)), exec_val rfl (by simp only [e1, e2, eqGuard_at_bool, binOp]; simp [eb])⟩
    · rename_i u v _ hx hy
      have e1 := hs.ev_s hx
      have e2 := hs.ev_s hy
      split at h
      · rename_i r hr
        cases h
        obtain ⟨h1, h2⟩ := bin_ok (P := P) (w := w) hr t x y
        exact ⟨_, .c (.f (.s h1)), exec_val (s := do eqGuard op t x y u v; binOp op t u v) (by simp only [execOp, e1, e2]) h2⟩
      · cases h
    · rename_i xs ys hx hy
      have hx' := hx ▸ hs.ev x
      have hy' := hy ▸ hs.ev y
      generalize hu : a.eval x = u at hx'
      generalize hv : a.eval y = v at hy'
      cases hx' with
      | @agg _ us hus =>
        cases hy' with
        | @agg _ vs hvs =>
          split at h <;> cases h
          · rename_i r hr
            have := hp.1 us vs r w (kinds_of hr hus) ((kinds_of' hr hvs).trans hp.2) (valEq_of hr hus hvs) x y
            exact ⟨_, .c (.f (.s rfl)), exec_val rfl (by simp [hu, hv, this.1, this.2.2.1])⟩
          · rename_i r hr
            have := hp.1 us vs r w (kinds_of hr hus) ((kinds_of' hr hvs).trans hp.2) (valEq_of hr hus hvs) x y
            exact ⟨_, .c (.f (.s rfl)), exec_val rfl (by simp [hu, hv, this.2.1, this.2.2.2])⟩
    · cases h
  case h_7 t x =>
    split at h <;> cases h
    rename_i b hx
    exact ⟨_, .c (.f (.s rfl)), exec_val rfl (by simp [hs.ev_s hx, Op.unary])⟩
  case h_8 t x =>
    split at h <;> cases h
    rename_i k n hx
    exact ⟨_, .c (.f (.s rfl)), exec_val rfl (by simp [hs.ev_s hx, Op.unary, Op.intArith])⟩
  case h_9 src dst x =>
    split at h
    · rename_i k n y1 y hx h1 h2
      split at h <;> cases h
      rename_i k' hb
      have hdst : P.underlying dst = some (.int k') := (hT _ _ h2).bas _ hb
      obtain ⟨d1, hd1, _⟩ := (hT _ _ h1).agg
      have hk : P.intKind dst = k' := by simp [Program.intKind, hdst]
      refine ⟨_, .c (.f (.s rfl)), exec_val rfl ?_⟩
      rw [hs.ev_s hx, run_convert_int w src dst k n (by simp [hd1]) (by rw [hk]; exact hdst), hk]
    · cases h
  case h_10 x i =>
    split at h
    · rename_i xs hx
      have hx' := hx ▸ hs.ev x
      generalize hu : a.eval x = u at hx'
      cases hx' with
      | @tup _ us hl hxx =>
        have key : ∀ q, xs[i]? = some q → ∃ u, us[i]? = some u ∧ RepP w E q u := fun q hq => by
          have hi : i < us.size := by rw [← hl]; exact (List.getElem?_eq_some_iff.1 hq).1
          exact ⟨us[i], Array.getElem?_eq_getElem hi, hxx i q _ hq (Array.getElem?_eq_getElem hi)⟩
        split at h <;> cases h
        · rename_i cs hq
          obtain ⟨u, h1, vs, rfl, h2⟩ := key _ hq
          exact ⟨_, .agg h2, exec_val rfl (by simp [hu, Instr.extract, h1])⟩
        · rename_i c hq
          obtain ⟨u, h1, z, hz, h2⟩ := key _ hq
          cases hz
          exact ⟨_, repN h2, exec_val rfl (by simp [hu, Instr.extract, h1])⟩
    · cases h
  case h_11 t x i =>
    split at h <;> cases h
    rename_i y s k n hy hx hi
    obtain ⟨h1, h2, h3⟩ := hp
    refine ⟨_, .c (.f (.s rfl)), exec_val rfl ?_⟩
    rw [hs.ev_s hx, hs.ev_s hi, run_index_string w t s k n ((hT _ _ hy).bas _ h1), dif_pos ⟨h2, h3⟩]
    have h4 : n.toNat < s.data.size := by have : s.size = s.data.size := rfl; omega
    simp only [Array.getD_eq_getD_getElem?, Array.getElem?_eq_getElem h4, Option.getD_some]
    rfl
  case h_12 t x i =>
    split at h
    · rename_i y k rows kd n hy hx hi
      split at h <;> cases h
      rename_i e k' be he
      obtain ⟨rfl, h2, h3⟩ := hp
      obtain ⟨hu1, hk0, ie, ze, hie, hze, hu2, hbe, hzk⟩ := (hT _ _ hy).elem _ _ _ he
      have hx' := hx ▸ hs.ev x
      have e2 := hs.ev_s hi
      generalize hu : a.eval x = u at hx'
      cases hx' with
      | c hx' =>
        cases hx' with
        | f hx' =>
          obtain ⟨A, c, rfl, hc, _⟩ := slice_form hx'
          obtain ⟨ad, rfl, hrd⟩ := slice_at (E := E) hx' (n := n.toNat) (by omega)
          refine ⟨_, hrd, exec_val rfl ?_⟩
          have hz := elem_size (w := w) (k := k) hu1 (by simp [hie, hu2])
          rw [hu, e2, run_indexAt_slice w t ad _ c kd n (by rw [elem_eq hu1]; exact hu1), if_pos ⟨h2, h3⟩, hz]
          rfl
    · rename_i y ar kd n hy hx hi
      split at h <;> cases h
      rename_i e k' be e0 k rows he hb
      obtain ⟨hem, rfl, h2, h3⟩ := hp
      obtain ⟨hu1, hk0, ie, ze, hie, hze, hu2, hbe, hzk⟩ := (hT _ _ hy).elem _ _ _ he
      have hx' := hx ▸ hs.ev x
      have e2 := hs.ev_s hi
      generalize hu : a.eval x = u at hx'
      cases hx' with
      | c hx' =>
        cases hx' with
        | o hL _ =>
          obtain ⟨v, us, hL', hown, hrep, hkk, _⟩ := hs.arr _ _ _ _ hb
          rw [hL] at hL'; cases hL'
          rcases (hown.row hem).2 with ⟨hv, h0⟩ | ⟨g, cap, cur, hv, _⟩
          · exfalso; omega
          · subst hv
            refine ⟨_, .el hL, exec_val rfl ?_⟩
            have hz := elem_size (w := w) (k := k) hu1 (by simp [hie, hu2])
            rw [hu, e2, run_indexAt_slice w t _ _ _ kd n (by rw [elem_eq hu1]; exact hu1), if_pos ⟨h2, h3⟩, hz]
            rfl
    · cases h
  case h_13 t x lo =>
    split at h
    · rename_i y k rows kd n hy hx hi
      split at h <;> cases h
      rename_i e k' be he
      obtain ⟨rfl, h2, h3⟩ := hp
      obtain ⟨hu1, hk0, ie, ze, hie, hze, hu2, hbe, hzk⟩ := (hT _ _ hy).elem _ _ _ he
      have hx' := hx ▸ hs.ev x
      have e2 := hs.ev_s hi
      generalize hu : a.eval x = u at hx'
      cases hx' with
      | c hx' =>
        cases hx' with
        | f hx' =>
          obtain ⟨A, c, rfl, hc, _⟩ := slice_form hx'
          have hz := elem_size (w := w) (k := k) hu1 (by simp [hie, hu2])
          have hd := slice_drop hx' (n := n.toNat) (by omega)
          refine ⟨_, .c (.f hd), exec_val rfl ?_⟩
          have hP : P.underlying t = some (.slice (P.elem t)) := by rw [elem_eq hu1]; exact hu1
          rw [hu, show (Option.map a.eval (some lo)) = some (a.eval lo) from rfl, e2, run_sliceAt_slice w t _ _ _ _ hP, show Option.map a.eval none = none from rfl, run_slice_l w t A _ c hP kd n h2 h3, hz]
          rfl
    · cases h
  case h_14 t x hi =>
    split at h
    · rename_i y k rows kd n hy hx hhi
      split at h <;> cases h
      rename_i e k' be he
      obtain ⟨rfl, h2, h3⟩ := hp
      obtain ⟨hu1, hk0, ie, ze, hie, hze, hu2, hbe, hzk⟩ := (hT _ _ hy).elem _ _ _ he
      have hx' := hx ▸ hs.ev x
      have e2 := hs.ev_s hhi
      generalize hu : a.eval x = u at hx'
      cases hx' with
      | c hx' =>
        cases hx' with
        | f hx' =>
          obtain ⟨A, c, rfl, hc, _⟩ := slice_form hx'
          have hz := elem_size (w := w) (k := k) hu1 (by simp [hie, hu2])
          have hd := slice_take hx' (n := n.toNat) (by omega)
          refine ⟨_, .c (.f hd), exec_val rfl ?_⟩
          have hP : P.underlying t = some (.slice (P.elem t)) := by rw [elem_eq hu1]; exact hu1
          rw [hu, show (Option.map a.eval (some hi)) = some (a.eval hi) from rfl, e2, run_sliceAt_slice w t _ _ _ _ hP, show Option.map a.eval none = none from rfl, run_slice_h w t A _ c hP kd n h2 (by omega), hz]
          simp [sliced, Addr.add]
    · cases h
  case h_15 c =>
    obtain ⟨callee, args, argTypes⟩ := c
    simp only at h
    split at h
    · rename_i x t e2 e3
      obtain rfl : args = #[x] := by rw [← e2]
      obtain rfl : argTypes = #[t] := by rw [← e3]
      split at h
      · rename_i y hy
        have hel : y.elem.isSome = true → P.underlying t = some (.slice (P.elem t)) := fun h => by
          obtain ⟨⟨e, k, b⟩, he⟩ := Option.isSome_iff_exists.1 h
          have := ((hT _ _ hy).elem _ _ _ he).1
          rw [elem_eq this]; exact this
        split at h
        · rename_i k rows hx
          cases h
          have hx' := hx ▸ hs.ev x
          generalize hu : a.eval x = u at hx'
          cases hx' with
          | c hx' =>
            cases hx' with
            | f hx' =>
              obtain ⟨A, c, rfl, hc, _⟩ := slice_form hx'
              exact ⟨_, .c (.f (.s rfl)), by simp [execOp, resolve, invoke, builtin, hu, run_len_slice w t _ A rows.length c (hel hp), goInt_eq]⟩
        · rename_i A n c hx
          cases h
          have e := hs.ev_s hx
          exact ⟨_, .c (.f (.s rfl)), by simp [execOp, resolve, invoke, builtin, e, run_len_slice w t _ A n c (hel hp), goInt_eq]⟩
        · rename_i s hx
          cases h
          have e := hs.ev_s hx
          exact ⟨_, .c (.f (.s rfl)), by simp [execOp, resolve, invoke, builtin, e, Builtin.len_, run_underlying ((hT _ _ hy).bas _ hp), Bas.desc, goInt_eq]⟩
        · rename_i b hx
          split at h <;> cases h
          rename_i e k rows hb
          have hx' := hx ▸ hs.ev x
          generalize hu : a.eval x = u at hx'
          cases hx' with
          | c hx' =>
            cases hx' with
            | o hL _ =>
              obtain ⟨v, us, hv, hown, _⟩ := hs.arr _ _ _ _ hb
              rw [hL] at hv; cases hv
              obtain ⟨A, c, rfl, _⟩ := own_slice (hown.row hp.1)
              exact ⟨_, .c (.f (.s rfl)), by simp [execOp, resolve, invoke, builtin, hu, run_len_slice w t _ A rows.length c (hel hp.2), goInt_eq]⟩
        · cases h
      · cases h
    rotate_left
    · rename_i x y t t' e2 e3
      obtain rfl : args = #[x, y] := by rw [← e2]
      split at h <;> cases h
      rename_i k m k' n hx hy
      exact ⟨_, .c (.f (.s rfl)), by simp [execOp, resolve, invoke, builtin, hs.ev_s hx, hs.ev_s hy, Builtin.min_, Builtin.min2]⟩
    · rename_i x y t t' e2 e3
      obtain rfl : args = #[x, y] := by rw [← e2]
      split at h <;> cases h
      rename_i k m k' n hx hy
      exact ⟨_, .c (.f (.s rfl)), by simp [execOp, resolve, invoke, builtin, hs.ev_s hx, hs.ev_s hy, Builtin.max_, Builtin.max2]⟩
    all_goals (repeat' (first | (cases h; done) | split at h))
  case h_16 t ps =>
    split at h
    · rename_i y qs hy hq
      split at h <;> cases h
      rename_i cs hf
      have hok := hT _ _ hy
      obtain ⟨fs, hu, hm, _, _⟩ := hok.pls hp
      obtain ⟨z, hz, hzs, _⟩ := hok.zero
      obtain ⟨vs, h1, h2⟩ := fill_ok (us := z.cells) hs _ hq (by rw [hzs]; exact reps_lit _ hok.z1) hf
      refine ⟨_, .agg h2, exec_val rfl ?_⟩
      refine run_build w t _ vs ?_
      cases hi : P.info? t with
      | none => simp [hi] at hz
      | some i =>
        simp [hi] at hz
        unfold Program.built
        rw [hi, hu]
        simp only [hz, hm]
        rw [← h1]
        simp
    · cases h
  case h_21 x =>
    have key : ∀ v, ev S x = v → (match v with | .loc _ _ => True | .rd _ => True | .el _ _ _ _ => True | .clo _ _ _ => True | .c (.f (.s (.func (.func _) _ _))) => True | _ => False) → ∃ u, RepV w E v u ∧ (execOp a.eval { dst, op := .nilCheck x, type, pos, after, guard }).run P w = .ok (.value u) w := fun v hv hm => by
      have hx' := hv ▸ hs.ev x
      refine ⟨a.eval x, hx', ?_⟩
      generalize hu : a.eval x = u at hx'
      cases hx' with
      | loc => simp [execOp, hu]
      | rd => simp [execOp, hu]
      | el => simp [execOp, hu]
      | clo => simp [execOp, hu]
      | c h =>
        cases h with
        | f h => cases h with
          | s h =>
            split at hm
            all_goals first
              | (exfalso; exact hm)
              | (rename_i e; cases e; simp [execOp, hu])
              | (rename_i e; cases e)
          | _ => exact hm.elim
        | _ => exact hm.elim
      | _ => exact hm.elim
    split at h
    all_goals first
      | (rename_i hx; cases h; exact key _ hx trivial)
      | cases h
  case h_22 t x f =>
    split at h
    · rename_i y cs hy hx
      split at h <;> cases h
      rename_i o z y2 hq hq2
      obtain ⟨hg, hk⟩ := hp
      obtain ⟨fs, hu, hm, hft, _⟩ := (hT _ _ hy).pls hg
      obtain ⟨fd, hfs, hfd⟩ := mapM_at hm hq
      have hfa : fs[f]? = some fd := by simpa using hfs
      rw [← hft, List.getElem?_map, hfs] at hq2
      have hy2 : T fd.type = some y2 := hq2
      have hok2 := hT _ _ hy2
      obtain ⟨d2, hd2, ha2⟩ := hok2.agg
      cases hi : P.info? fd.type with
      | none => simp [hi] at hfd
      | some i =>
        simp [hi] at hfd
        have hsz : i.size = y2.k := by have := hok2.size; rw [hi] at this; simpa using this
        have hx' := hx ▸ hs.ev x
        generalize hu' : a.eval x = u at hx'
        cases hx' with
        | @agg _ us hus =>
          have hul := hus.1
          cases hga : y2.agg with
          | true =>
            rw [hga] at ha2
            refine ⟨_, .agg (us := us.extract o (o + y2.k)) ?_, exec_val rfl ?_⟩
            · have := hus.part o y2.k
              simpa [List.extract_eq_take_drop] using this
            · rw [hu']
              have hAgg : (isAgg fd.type).run P w = .ok true w := by
                unfold isAgg
                rw [Sem.run_bind, run_underlying hd2 w]
                cases d2 <;> simp_all [aggD]
              simp [Instr.field, run_underlying hu, hfa, part, hAgg, asAgg, sizeOf, typeInfo, hi, hfd.1, hsz]
          | false =>
            rw [hga] at ha2
            have hk1 := hok2.one hga
            have ho : o < cs.length := by omega
            have hou : o < us.size := by rw [← Array.length_toList, ← hul]; exact ho
            have e1 : (cs.drop o).take y2.k = [cs[o]] := by
              rw [hk1, List.drop_eq_getElem_cons ho]; rfl
            rw [e1]
            refine ⟨us[o], repN (hus.2 o _ _ (List.getElem?_eq_getElem ho) (by simp [hou])), exec_val rfl ?_⟩
            rw [hu']
            have hAgg : (isAgg fd.type).run P w = .ok false w := by
              unfold isAgg
              rw [Sem.run_bind, run_underlying hd2 w]
              cases d2 <;> simp_all [aggD]
            simp [Instr.field, run_underlying hu, hfa, part, hAgg, asAgg, hfd.1, hou]
    · cases h
  case h_23 f fi ca =>
    split at h <;> cases h
    rename_i x y hx hy
    exact ⟨_, .clo (wsD_okA hs hx) (wsD_okA hs hy), by simp [execOp, Instr.makeFunc]⟩
  case h_24 t x lo hi =>
    split at h
    · rename_i y k rows kd n kd2 m hy hx hlo hhi
      split at h <;> cases h
      rename_i e k' be he
      obtain ⟨rfl, h2, h3, h4⟩ := hp
      obtain ⟨hu1, hk0, ie, ze, hie, hze, hu2, hbe, hzk⟩ := (hT _ _ hy).elem _ _ _ he
      have hx' := hx ▸ hs.ev x
      have e2 := hs.ev_s hlo
      have e3 := hs.ev_s hhi
      generalize hu : a.eval x = u at hx'
      cases hx' with
      | c hx' =>
        cases hx' with
        | f hx' =>
          obtain ⟨A, c, rfl, hc, _⟩ := slice_form hx'
          have hz := elem_size (w := w) (k := k) hu1 (by simp [hie, hu2])
          have hd := slice_mid hx' (n := n.toNat) (m := m.toNat) (by omega) (by omega)
          rw [show (m - n).toNat = m.toNat - n.toNat by omega]
          refine ⟨_, .c (.f hd), exec_val rfl ?_⟩
          have hP : P.underlying t = some (.slice (P.elem t)) := by rw [elem_eq hu1]; exact hu1
          rw [hu, show (Option.map a.eval (some lo)) = some (a.eval lo) from rfl, e2, show (Option.map a.eval (some hi)) = some (a.eval hi) from rfl, e3, run_sliceAt_slice w t _ _ _ _ hP, show Option.map a.eval none = none from rfl, run_slice_lh w t A _ c hP kd kd2 n m h2 h3 (by omega), hz]
          rfl
    · cases h
  case h_25 t x i =>
    split at h
    · rename_i y c hy hx
      split at h
      · rename_i K V e k hm hc
        split at h
        · rename_i yk yv hk hv
          split at h <;> cases h
          rename_i z hz
          obtain ⟨rfl, hg, hkey⟩ := hp
          exact lookup_nil hT hy hm hk hv hc hx hkey hz hg hs _ rfl
        · cases h
      · cases h
    · cases h
  all_goals (repeat' (first | (cases h; done) | split at h))
/-! ### The state behind an operation -/
def putS (f : Nat → V) (d : Option Nat) (v : V) : Nat → V := match d with
  | some t => upd f t v
  | none => f
theorem Sim.env (h : Sim X w0 N S E a w) (v : V) (u : Value) (hv : RepV w E v u) (d : Option Nat) (hd : ∀ t, d = some t → t < N) : Sim X w0 N { S with slots := putS S.slots d v } E (a.put d u) w := by
  cases d with
  | none => exact h
  | some t =>
    have ht := hd t rfl
    refine ⟨h.chg, h.fr, by simpa [Act.put] using h.sz, fun j => ?_, h.blk, h.inj, h.bl, h.arr, h.al, h.ai, h.bn, h.an, h.il, h.i0, h.i1, h.kp⟩
    have hsz := h.sz
    by_cases hj : j = t
    · subst hj
      simp only [putS, upd_same, Act.put]
      rw [Array.getD_eq_getD_getElem?, Array.getElem?_setIfInBounds_self_of_lt (by omega)]
      exact hv
    · simp only [putS, upd_ne _ _ hj, Act.put]
      rw [Array.getD_eq_getD_getElem?, Array.getElem?_setIfInBounds_ne (by omega), ← Array.getD_eq_getD_getElem?]
      exact h.slot j
/-- an operation that yields a value and leaves the world -/
theorem step_put {T : Nat → Option Ty} (hT : ∀ t y, T t = some y → TyOk P t y) {o : Oper} {p : Prop} {v : V} {rn : List Nat} (h : effd P T S o.op = some (p, .put v, rn)) (hp : p) (hs : Sim X w0 N S E a w) (hd : ∀ t, o.dst = some t → t < N)
    {K : Act → World → Prop} {Q : Exit → Act → World → Prop} (hK : ∀ E' a' w', Sim X w0 N { S with slots := putS S.slots o.dst v } E' a' w' → K a' w') : o.wp P a w K Q := by
  obtain ⟨u, h1, h2⟩ := eff_put hT h hp hs o rfl
  unfold Oper.wp
  rw [h2]
  exact hK _ _ _ (hs.env v u h1 o.dst hd)
/-- the world has grown, nothing that stood has changed -/
theorem Sim.grow (h : Sim X w0 N S E a w) {w' : World} (hb : Below w.heap.size w w') : Sim X w0 N S E a w' := by
  have hle : Env.Le w w' E E := ⟨fun b hi => hb.block b (h.il b hi), fun _ h => h, fun _ _ h => h, fun _ _ h => h⟩
  refine ⟨h.chg.trans (Chg.of_below hb X.X), h.fr.below hb, h.sz, fun t => (h.slot t).mono hle, fun t e cs ht => ?_, h.inj, fun t b ht => ?_, fun k e n rows hr => ?_, fun k v b hv hb' => ?_, h.ai, h.bn, h.an, fun b hi => Nat.lt_of_lt_of_le (h.il b hi) hb.size, h.i0, h.i1, h.kp⟩
  · obtain ⟨b, vs, h1, h2, h3, h4⟩ := h.blk t e cs ht
    exact ⟨b, vs, h1, h2.below hb h2.lt, h3.mono hle, h4⟩
  · exact ⟨Nat.lt_of_lt_of_le (h.bl t b ht).1 hb.size, (h.bl t b ht).2⟩
  · obtain ⟨v, us, h1, h2, h3, h4⟩ := h.arr k e n rows hr
    exact ⟨v, us, h1, ownA_below h2 hb fun g hg => (h2.lt g hg).2, ⟨h3.1, fun j x u hx hu => (h3.2 j x u hx hu).mono (fun b hi => hb.block b (h.il b hi)) fun _ h => h⟩, h4⟩
  · exact ⟨Nat.lt_of_lt_of_le (h.al k v b hv hb').1 hb.size, (h.al k v b hv hb').2⟩
/-- a block of the call's own is laid -/
theorem step_box {o : Oper} {d : Nat} {e : TypeId} {cs : List C} {vs : Array Value} (hd : o.dst = some d) (hN : d < N) (hf : S.blks d = none) (hs : Sim X w0 N S E a w) (hr : Reps w E cs vs.toList)
    (hx : (execOp a.eval o).run P w = .ok (.value (.pointer (some ⟨w.heap.size, 0, none⟩))) (w.alloc (.cells vs e)))
    {K : Act → World → Prop} {Q : Exit → Act → World → Prop} (hK : ∀ E' a' w', Sim X w0 N ⟨upd S.slots d (.loc d 0), upd S.blks d (some (e, cs)), S.arrs⟩ E' a' w' → K a' w') : o.wp P a w K Q := by
  have hb : Below w.heap.size w (w.alloc (.cells vs e)) := (Below.refl _ w).alloc (Nat.le_refl _) _
  have h := hs.grow hb
  have hbd : E.B d = none := hs.bn d hf
  let E' : Env := ⟨fun t => if t = d then some w.heap.size else E.B t, E.L, E.I⟩
  have hle : Env.Le (w.alloc (.cells vs e)) (w.alloc (.cells vs e)) E E' := ⟨fun _ _ => rfl, fun _ h => h, fun t b ht => by
    show (if t = d then _ else _) = _
    rw [if_neg (fun e => by subst e; rw [hbd] at ht; cases ht)]; exact ht, fun _ _ h => h⟩
  have hle0 : Env.Le w (w.alloc (.cells vs e)) E E' := ⟨fun b hi => hb.block b (hs.il b hi), fun _ h => h, hle.B, fun _ _ h => h⟩
  have hsz : (w.alloc (.cells vs e)).heap.size = w.heap.size + 1 := by simp
  have h' : Sim X w0 N ⟨S.slots, upd S.blks d (some (e, cs)), S.arrs⟩ E' a (w.alloc (.cells vs e)) := by
    refine ⟨h.chg, h.fr, h.sz, fun t => (h.slot t).mono hle, fun t e' cs' ht => ?_, fun t t' b h1 h2 => ?_, fun t b ht => ?_, h.arr, fun k v b hv hb' => ?_, h.ai, fun t ht => ?_, h.an, h.il, h.i0, h.i1, fun t hb => hle.B _ _ (hs.kp t hb)⟩
    · have ht : upd S.blks d (some (e, cs)) t = some (e', cs') := ht
      by_cases htd : t = d
      · subst htd
        rw [upd_same] at ht
        cases ht
        exact ⟨w.heap.size, vs, if_pos rfl, Blk.new _ _ _, hr.mono hle0, .inl hs.chg.size⟩
      · rw [upd_ne _ _ htd] at ht
        obtain ⟨b, vs', h1, h2, h3, h4⟩ := h.blk t e' cs' ht
        exact ⟨b, vs', hle.B _ _ h1, h2, h3.mono hle, h4⟩
    · have h1 : (if t = d then some w.heap.size else E.B t) = some b := h1
      have h2 : (if t' = d then some w.heap.size else E.B t') = some b := h2
      by_cases e1 : t = d <;> by_cases e2 : t' = d
      · rw [e1, e2]
      · rw [if_pos e1] at h1; rw [if_neg e2] at h2; cases h1; have := (hs.bl _ _ h2).1; omega
      · rw [if_neg e1] at h1; rw [if_pos e2] at h2; cases h2; have := (hs.bl _ _ h1).1; omega
      · rw [if_neg e1] at h1; rw [if_neg e2] at h2; exact hs.inj _ _ _ h1 h2
    · have ht : (if t = d then some w.heap.size else E.B t) = some b := ht
      by_cases e1 : t = d
      · rw [if_pos e1] at ht; cases ht
        exact ⟨by rw [hsz]; omega, fun hi => by have := hs.il _ hi; omega⟩
      · rw [if_neg e1] at ht; exact h.bl _ _ ht
    · obtain ⟨h1, h2, h3⟩ := hs.al k v b hv hb'
      refine ⟨by rw [hsz]; omega, h2, fun t ht => ?_⟩
      have ht : (if t = d then some w.heap.size else E.B t) = some b := ht
      by_cases e1 : t = d
      · rw [if_pos e1] at ht; cases ht; omega
      · rw [if_neg e1] at ht; exact h3 _ ht
    · have ht : upd S.blks d (some (e, cs)) t = none := ht
      by_cases e1 : t = d
      · subst e1; rw [upd_same] at ht; cases ht
      · rw [upd_ne _ _ e1] at ht
        show (if t = d then _ else _) = _
        rw [if_neg e1]; exact hs.bn t ht
  unfold Oper.wp
  rw [hx]
  have := h'.env (.loc d 0) _ (.loc (b := w.heap.size) (if_pos rfl)) o.dst (fun t ht => by rw [hd] at ht; cases ht; exact hN)
  rw [hd] at this
  show K (a.put o.dst _) _
  rw [hd]
  exact hK _ _ _ this
/-- cells of a block of the call's own are written -/
theorem step_store {o : Oper} {b : Nat} {e : TypeId} {cs cs' : List C} {vs' : Array Value} {g : Nat} (hd : o.dst = none) (hb : S.blks b = some (e, cs)) (hg : E.B b = some g) (hs : Sim X w0 N S E a w) (hr : Reps w E cs' vs'.toList)
    (hx : (execOp a.eval o).run P w = .ok .skip (w.setRow g vs'))
    {K : Act → World → Prop} {Q : Exit → Act → World → Prop} (hK : ∀ E' a' w', Sim X w0 N ⟨S.slots, upd S.blks b (some (e, cs')), S.arrs⟩ E' a' w' → K a' w') : o.wp P a w K Q := by
  obtain ⟨g', vs, hg', hblk, hreps, hnew⟩ := hs.blk b e cs hb
  rw [hg] at hg'; cases hg'
  have hni := (hs.bl b g hg).2
  have hot : ∀ k, k ≠ g → (w.setRow g vs').heap[k]? = w.heap[k]? := fun k hk => setRow_other w g k vs' hk
  have hle : Env.Le w (w.setRow g vs') E E := ⟨fun k hk => hot k (fun e => hni (e ▸ hk)), fun _ h => h, fun _ _ h => h, fun _ _ h => h⟩
  have hsz : (w.setRow g vs').heap.size = w.heap.size := by simp
  have h' : Sim X w0 N ⟨S.slots, upd S.blks b (some (e, cs')), S.arrs⟩ E a (w.setRow g vs') := by
    refine ⟨hs.chg.setRow (fun hlt => hnew.resolve_left (by omega)) _, hs.fr.far (blk_cells hblk) hot, hs.sz, fun t => (hs.slot t).mono hle, fun t e' cs'' ht => ?_, hs.inj, fun t k ht => by rw [hsz]; exact hs.bl t k ht, fun k e' n rows hk => ?_, fun k v c hv hc => by rw [hsz]; exact hs.al k v c hv hc, hs.ai, fun t ht => ?_, hs.an, fun k hk => by rw [hsz]; exact hs.il k hk, hs.i0, hs.i1, hs.kp⟩
    · have ht : upd S.blks b (some (e, cs')) t = some (e', cs'') := ht
      by_cases htb : t = b
      · subst htb
        rw [upd_same] at ht
        cases ht
        exact ⟨g, vs', hg, hblk.setRow_ _, hr.mono hle, hnew⟩
      · rw [upd_ne _ _ htb] at ht
        obtain ⟨g2, vs2, h1, h2, h3, h4⟩ := hs.blk t e' cs'' ht
        have hne : g2 ≠ g := fun e => htb (hs.inj _ _ _ h1 (e ▸ hg))
        exact ⟨g2, vs2, h1, h2.setRow_far hne _, h3.mono hle, h4⟩
    · obtain ⟨v, us, h1, h2, h3, h4, h5⟩ := hs.arr k e' n rows hk
      exact ⟨v, us, h1, ownA_keep h2 fun c hc => hot c (fun e => (hs.al k v c h1 hc).2.2 b (e ▸ hg)), ⟨h3.1, fun j x u hx hu => (h3.2 j x u hx hu).mono hle.mem fun _ h => h⟩, h4, h5⟩
    · have ht : upd S.blks b (some (e, cs')) t = none := ht
      by_cases e1 : t = b
      · subst e1; rw [upd_same] at ht; cases ht
      · rw [upd_ne _ _ e1] at ht; exact hs.bn t ht
  unfold Oper.wp
  rw [hx]
  show K (a.put o.dst undef) _
  rw [hd]
  exact hK _ _ _ h'
theorem exec_box {T : Nat → Option Ty} (hT : ∀ t y, T t = some y → TyOk P t y) {o : Oper} {p : Prop} {e : TypeId} {cs : List C} {rn : List Nat} (h : effd P T S o.op = some (p, .box e cs, rn)) (hs : Sim X w0 N S E a w) :
    ∃ vs : Array Value, Reps w E cs vs.toList ∧ (execOp a.eval o).run P w = .ok (.value (.pointer (some ⟨w.heap.size, 0, none⟩))) (w.alloc (.cells vs e)) := by
  obtain ⟨dst, op, type, pos, after, guard⟩ := o
  simp only at h ⊢
  unfold effd at h
  split at h
  case h_18 e' x =>
    split at h <;> cases h
    rename_i hv
    exact ⟨_, vcells_ok (hs.ev x) hv, by simp [execOp, Instr.box, newVar, newRow]⟩
  case h_19 e' =>
    split at h <;> cases h
    rename_i y hy
    have hok := hT _ _ hy
    obtain ⟨z, hz, hzs, _⟩ := hok.zero
    refine ⟨z.cells, by rw [hzs]; exact reps_lit _ hok.z1, ?_⟩
    cases hi : P.info? e with
    | none => simp [hi] at hz
    | some i => simp [hi] at hz; simp [execOp, Instr.alloc, newVar, newRow, zeroValue, typeInfo, hi, hz]
  all_goals (repeat' (first | (cases h; done) | split at h))
theorem exec_store {T : Nat → Option Ty} (hT : ∀ t y, T t = some y → TyOk P t y) {o : Oper} {p : Prop} {b : Nat} {e : TypeId} {cs' : List C} {rn : List Nat} (h : effd P T S o.op = some (p, .store b e cs', rn)) (hp : p) (hs : Sim X w0 N S E a w) :
    ∃ cs g, ∃ vs' : Array Value, S.blks b = some (e, cs) ∧ E.B b = some g ∧ Reps w E cs' vs'.toList ∧ (execOp a.eval o).run P w = .ok .skip (w.setRow g vs') := by
  obtain ⟨dst, op, type, pos, after, guard⟩ := o
  simp only at h ⊢
  unfold effd at h
  split at h
  case h_20 t x v =>
    split at h
    · rename_i y b' off vs hy hx hv
      split at h <;> cases h
      rename_i cs hb
      have hok := hT _ _ hy
      obtain ⟨hp1, hp2⟩ := hp
      have hx' := hx ▸ hs.ev x
      generalize hu : a.eval x = u at hx'
      cases hx' with
      | @loc _ _ g hB =>
        obtain ⟨g', us, hB', hblk, hreps, _⟩ := hs.blk _ _ _ hb
        rw [hB] at hB'; cases hB'
        have hv' := vcells_ok (hs.ev v) hv
        have hl : (a.eval v).cells.toList.length = y.k := by rw [← hv'.1, hp1]
        have hul : us.toList.length = cs.length := hreps.1.symm
        have hr := run_storeVar_at (P := P) w g off y.k e t us (a.eval v).cells hblk hok.size (by simpa using hl) (by simp at hul; omega) (one_all hv')
        refine ⟨cs, g, (us.toList.take off ++ (a.eval v).cells.toList ++ us.toList.drop (off + y.k)).toArray, hb, hB, ?_, ?_⟩
        rotate_left
        · have hr2 : (storeVar t ⟨g, off, none⟩ (a.eval v)).run P w = _ := hr
          simp [execOp, Instr.storeAt, Instr.sureAddr, hu, hr2]
        · refine ⟨by simp [hp1, hl, hul], fun j x u hx hu => ?_⟩
          replace hu : (us.toList.take off ++ (a.eval v).cells.toList ++ us.toList.drop (off + y.k))[j]? = some u := hu
          have hl1 : (cs.take off).length = off := by rw [List.length_take]; omega
          have hl2 : (us.toList.take off).length = off := by rw [List.length_take]; omega
          by_cases h1 : j < off
          · rw [List.append_assoc, List.getElem?_append_left (by omega), List.getElem?_take, if_pos h1] at hx hu
            exact hreps.2 j x u hx hu
          · by_cases h2 : j < off + y.k
            · rw [List.append_assoc, List.getElem?_append_right (by omega), List.getElem?_append_left (by omega)] at hx hu
              rw [hl1] at hx
              rw [hl2] at hu
              exact hv'.2 _ x u hx hu
            · rw [List.getElem?_append_right (by simp [hl1, hp1]; omega), List.getElem?_drop] at hx
              rw [List.getElem?_append_right (by rw [List.length_append, hl2, hl]; omega), List.getElem?_drop] at hu
              rw [List.length_append, hl1, hp1] at hx
              rw [List.length_append, hl2, hl] at hu
              exact hreps.2 _ x u hx hu
    · split at h <;> cases h
    · cases h
  all_goals (repeat' (first | (cases h; done) | split at h))
theorem Sim.newI (hs : Sim X w0 N S E a w) (o : Obj) : Sim X w0 N S ⟨E.B, E.L, fun b => E.I b ∨ b = w.heap.size⟩ a (w.alloc o) := by
  have hb : Below w.heap.size w (w.alloc o) := (Below.refl _ w).alloc (Nat.le_refl _) _
  have h := hs.grow hb
  have hsz : (w.alloc o).heap.size = w.heap.size + 1 := by simp
  have hle : Env.Le (w.alloc o) (w.alloc o) E ⟨E.B, E.L, fun b => E.I b ∨ b = w.heap.size⟩ := ⟨fun _ _ => rfl, fun _ h => .inl h, fun _ _ h => h, fun _ _ h => h⟩
  refine ⟨h.chg, (hs.fr.mem fun b hb => hb.imp id fun e => .inl (by omega)).below hb, h.sz, fun t => (h.slot t).mono hle, fun t e cs ht => ?_, h.inj, fun t b ht => ⟨(h.bl t b ht).1, fun hi => ?_⟩, fun k e n rows hk => ?_, fun k v b hv hb => ⟨(h.al k v b hv hb).1, fun hi => ?_, (h.al k v b hv hb).2.2⟩, h.ai, h.bn, h.an, fun b hi => ?_, fun b hb => .inl (hs.i0 b hb), fun b hi => ?_, h.kp⟩
  · obtain ⟨b, vs, h1, h2, h3, h4⟩ := h.blk t e cs ht
    exact ⟨b, vs, h1, h2, h3.mono hle, h4⟩
  · rcases hi with h1 | h1
    · exact (hs.bl t b ht).2 h1
    · have := (hs.bl t b ht).1; omega
  · obtain ⟨v, us, h1, h2, h3, h4, h5⟩ := h.arr k e n rows hk
    exact ⟨v, us, h1, h2, ⟨h3.1, fun j x u hx hu => (h3.2 j x u hx hu).mono (fun _ _ => rfl) fun _ h => .inl h⟩, h4, h5⟩
  · rcases hi with h1 | h1
    · exact (hs.al k v b hv hb).2.1 h1
    · have := (hs.al k v b hv hb).1; omega
  · rcases hi with h1 | h1
    · exact h.il b h1
    · omega
  · rcases hi with h1 | h1
    · exact hs.i1 b h1
    · exact .inr (.inl (by have := hs.chg.size; omega))
theorem exec_mk {T : Nat → Option Ty} (hT : ∀ t y, T t = some y → TyOk P t y) {o : Oper} {p : Prop} {e : TypeId} {k : Nat} {rows : List (List F)} {rn : List Nat} (h : effd P T S o.op = some (p, .mk e k rows, rn)) (hp : p) (hs : Sim X w0 N S E a w) :
    ∃ r, ∃ vs : Array Value, rows = [r] ∧ r.length = k ∧ RepFs w E.I r vs.toList ∧ (execOp a.eval o).run P w = .ok (.value (.slice (some ⟨w.heap.size, 0, none⟩) 1 1)) (w.alloc (.cells vs e)) := by
  obtain ⟨dst, op, type, pos, after, guard⟩ := o
  simp only at h ⊢
  unfold effd at h
  split at h
  case h_17 t n ps =>
    split at h
    · rename_i y x hy hps
      split at h
      · rename_i e' k' b cs he hc
        split at h <;> cases h
        rename_i r hr
        obtain ⟨rfl, hrk, hkb⟩ := hp
        obtain ⟨hu1, hk0, ie, ze, hie, hze, hu2, hbe, hzk⟩ := (hT _ _ hy).elem _ _ _ he
        have hv := vcells_ok (hs.ev x) hc
        obtain ⟨h1, h2⟩ := frz_ok hr hv
        have hsz : (a.eval x).cells.size = k := by have := h1.1; simp only [Array.length_toList] at this; omega
        refine ⟨r, (a.eval x).cells, rfl, hrk, h1, ?_⟩
        have hpl : (ps.map fun p => (p.1, a.eval p.2)) = #[(0, a.eval x)] := by
          have : ps = #[(0, x)] := by rw [← hps]
          rw [this]; simp
        simp only [execOp, Sem.run_bind]
        rw [hpl, run_buildSlice (P := P) w t e 1 #[(0, a.eval x)] (a.eval x).cells ie ze hu1 hie hze (by rw [hu2]; omega) (by rw [hu2]; omega)]
        · rfl
        · simp only [Instr.fill, Nat.zero_mul, Nat.zero_add, Nat.one_mul, hu2]
          have hsz2 : (Array.map (fun x => ze.cells[x % ze.cells.size]!) (Array.range k)).size = k := by simp
          rw [if_neg (by simp [hsz])]
          congr 1
          apply Array.toList_inj.1
          rw [← Array.foldl_toList, Array.toList_zipIdx]
          have := fold_set 0 (a.eval x).cells.toList 0 (Array.map (fun x => ze.cells[x % ze.cells.size]!) (Array.range k)) (by simp [hsz])
          simp only [Nat.zero_add, Nat.add_zero, List.take_zero, List.nil_append] at this
          rw [this, List.drop_of_length_le (by simp [hsz]), List.append_nil]
      · cases h
    · cases h
  all_goals (repeat' (first | (cases h; done) | split at h))
theorem step_mk {T : Nat → Option Ty} (hT : ∀ t y, T t = some y → TyOk P t y) {o : Oper} {p : Prop} {e : TypeId} {k : Nat} {rows : List (List F)} {rn : List Nat} (h : effd P T S o.op = some (p, .mk e k rows, rn)) (hp : p) (hs : Sim X w0 N S E a w) (hd : ∀ t, o.dst = some t → t < N)
    {K : Act → World → Prop} {Q : Exit → Act → World → Prop} (hK : ∀ E' a' w', Sim X w0 N { S with slots := putS S.slots o.dst (.c (.f (.l k rows))) } E' a' w' → K a' w') : o.wp P a w K Q := by
  obtain ⟨r, vs, rfl, hrk, hr, hx⟩ := exec_mk hT h hp hs
  have h' := hs.newI (.cells vs e)
  have hblk : Blk (w.alloc (.cells vs e)) w.heap.size e vs := Blk.new _ _ _
  have hb : Below w.heap.size w (w.alloc (.cells vs e)) := (Below.refl _ w).alloc (Nat.le_refl _) _
  unfold Oper.wp
  rw [hx]
  refine hK _ _ _ (h'.env _ _ (.c (.f (.l (fun j => vs.getD j undef) rfl (by simp) (fun q hq => by rw [List.mem_singleton.1 hq]; exact hrk) (Nat.le_refl _) (.inr rfl) (fun j x hj => ?_) fun j x hj => ?_))) o.dst hd)
  · have hj2 : j < vs.size := by
      have h1 := (List.getElem?_eq_some_iff.1 hj).1
      have h2 := hr.1
      simp at h1 h2
      omega
    rw [add_plain, hblk.cell]
    simp [Array.getD, hj2]
  · have hj1 : r[j]? = some x := by simpa using hj
    have hj2 : j < vs.size := by
      have h1 := (List.getElem?_eq_some_iff.1 hj1).1
      have h2 := hr.1
      simp at h2
      omega
    have := hr.2 j x vs[j] hj1 (by simp [hj2])
    rw [show vs.getD j undef = vs[j] by simp [Array.getD, hj2]]
    exact this.mono (fun b hi => hb.block b (hs.il b hi)) fun _ h => .inl h
/-! an append -/
def killC (ko : Option Nat) : C → C
  | .o b => if ko = some b then .un else .o b
  | x => x
def killP (ko : Option Nat) : Bool × List C → Bool × List C
  | (b, cs) => (b, cs.map (killC ko))
def killV (ko : Option Nat) : V → V
  | .c x => .c (killC ko x)
  | .agg xs => .agg (xs.map (killC ko))
  | .tup xs => .tup (xs.map (killP ko))
  | .el a k i off => if ko = some a then .un else .el a k i off
  | x => x
def killB (ko : Option Nat) : Option (TypeId × List C) → Option (TypeId × List C)
  | some (e, cs) => some (e, cs.map (killC ko))
  | none => none
section kill
variable {ko : Option Nat} {w' : World} {E' : Env}
theorem killC_ok (hm : ∀ b, E.I b → w'.heap[b]? = w.heap[b]?) (hI : ∀ b, E.I b → E'.I b) (hB : ∀ t b, E.B t = some b → E'.B t = some b) (hL : ∀ a v, ko ≠ some a → E.L a = some v → E'.L a = some v) {x : C} {u : Value} (h : RepC w E x u) : RepC w' E' (killC ko x) u := by
  cases h with
  | f h => exact .f (h.mono hm hI)
  | @o a _ h h1 =>
    unfold killC
    by_cases hk : ko = some a
    · simp only [hk, if_true]; exact .un h1
    · simp only [hk, if_false]; exact .o (hL _ _ hk h) h1
  | un h => exact .un h
  | p h => exact .p (hB _ _ h)
theorem killCs_ok (hm : ∀ b, E.I b → w'.heap[b]? = w.heap[b]?) (hI : ∀ b, E.I b → E'.I b) (hB : ∀ t b, E.B t = some b → E'.B t = some b) (hL : ∀ a v, ko ≠ some a → E.L a = some v → E'.L a = some v) {xs : List C} {us : List Value} (h : Reps w E xs us) : Reps w' E' (xs.map (killC ko)) us :=
  ⟨by simpa using h.1, fun j x u hx hu => by
    rw [List.getElem?_map] at hx
    cases hj : xs[j]? with
    | none => simp [hj] at hx
    | some y => simp [hj] at hx; subst hx; exact killC_ok hm hI hB hL (h.2 j y u hj hu)⟩
theorem killV_ok (hm : ∀ b, E.I b → w'.heap[b]? = w.heap[b]?) (hI : ∀ b, E.I b → E'.I b) (hB : ∀ t b, E.B t = some b → E'.B t = some b) (hL : ∀ a v, ko ≠ some a → E.L a = some v → E'.L a = some v) {x : V} {u : Value} (h : RepV w E x u) : RepV w' E' (killV ko x) u := by
  cases h with
  | clo h1 h2 => exact .clo (h1.mono hm hI hB) (h2.mono hm hI hB)
  | @el a _ _ _ _ _ _ h =>
    unfold killV
    by_cases hk : ko = some a
    · simp only [hk, if_true]; exact .un
    · simp only [hk, if_false]; exact .el (hL _ _ hk h)
  | un => exact .un
  | no => exact .no
  | c h => exact .c (killC_ok hm hI hB hL h)
  | agg h => exact .agg (killCs_ok hm hI hB hL h)
  | tup hl h =>
    refine .tup (by simpa using hl) fun j x u hx hu => ?_
    rw [List.getElem?_map] at hx
    rename_i xs us
    cases hj : xs[j]? with
    | none => simp [hj] at hx
    | some y =>
      simp [hj] at hx
      subst hx
      have := h j y u hj hu
      obtain ⟨b, cs⟩ := y
      cases b
      · obtain ⟨z, e, hz⟩ := this
        subst e
        exact ⟨_, rfl, killC_ok hm hI hB hL hz⟩
      · obtain ⟨z, e, hz⟩ := this
        exact ⟨z, e, killCs_ok hm hI hB hL hz⟩
  | loc h => exact .loc (hB _ _ h)
  | rd us h1 h2 h3 =>
    refine .rd us (hI _ h1) (fun j x hj => ?_) fun j x hj => (h3 j x hj).mono hm hI
    rw [World.cell?_of_block (hm _ (by rw [block_of_add]; exact h1))]
    exact h2 j x hj
end kill
/-- an append to an array of the call's own, or to nil -/
theorem step_app {o : Oper} {s x : Operand} {t : TypeId} {y : Ty} (hy : TyOk P t y) {e : TypeId} {k b d : Nat} (he : y.elem = some (e, k, b)) (hem : e < 1000000) {ko : Option Nat} {rows news : List (List F)} (hop : o.op = .call { callee := .builtin .append, args := #[s, x], argTypes := #[t, t] }) (hd : o.dst = some d) (hN : d < N)
    (hx : rowsOf (ev S x) = some (k, news)) (hn1 : rows.length + news.length ≤ maxLen) (hn2 : (rows.length + news.length) * b ≤ 140737488355328)
    (hs0 : (∃ c, ko = some c ∧ ev S s = .c (.o c) ∧ S.arrs c = some (e, k, rows)) ∨ (ko = none ∧ rows = [] ∧ ev S s = .c (.f (.s (.slice none 0 0))))) (hfree : S.arrs d = none ∨ ko = some d) (hs : Sim X w0 N S E a w)
    {K : Act → World → Prop} {Q : Exit → Act → World → Prop} (hK : ∀ E' a' w', Sim X w0 N ⟨upd (fun t => killV ko (S.slots t)) d (.c (.o d)), fun t => killB ko (S.blks t), fun c => if c = d then some (e, k, rows ++ news) else if ko = some c then none else S.arrs c⟩ E' a' w' → K a' w') : o.wp P a w K Q := by
  obtain ⟨hu1, hk0, ie, ze, hie, hze, hu2, hbe, hzk⟩ := hy.elem _ _ _ he
  have hx' : ∃ A c, a.eval x = .slice A news.length c ∧ RepF w E.I (.l k news) (.slice A news.length c) := by
    have h1 := hs.ev x
    unfold rowsOf at hx
    split at hx <;> cases hx
    rename_i hxe
    rw [hxe] at h1
    generalize a.eval x = u at h1
    cases h1 with
    | c h1 => cases h1 with
      | f h1 =>
        obtain ⟨A, c, rfl, _⟩ := slice_form h1
        exact ⟨A, c, rfl, h1⟩
  obtain ⟨Ax, cx, hxv, hxr⟩ := hx'
  have hk : ∀ r ∈ news, r.length = k := fun r hr => by
    obtain ⟨A', c', ee, hc, hf⟩ := slice_form hxr
    obtain ⟨ad, us, _, _, hkk, _⟩ := hf (List.length_pos_of_mem hr)
    exact hkk r hr
  obtain ⟨us, hus, hreads⟩ : ∃ us : List Value, RepFs w E.I news.flatten us ∧ Reads w w.heap.size k Ax news.length us := by
    obtain ⟨A', c', ee, hc, hf⟩ := slice_form hxr
    cases ee
    rcases Nat.eq_zero_or_pos news.length with h0 | h0
    · have : news = [] := List.eq_nil_of_length_eq_zero h0
      subst this
      exact ⟨[], ⟨rfl, fun j x u h => by simp at h⟩, ⟨by simp, fun h => absurd h (by simp)⟩⟩
    · obtain ⟨ad, us, rfl, hI, hkk, hcell, hxx⟩ := hf h0
      have hfl : news.flatten.length = news.length * k := flat_len hkk
      refine ⟨(List.range news.flatten.length).map us, ⟨by simp, fun j x u hj hu => ?_⟩, ⟨by simp [hfl], fun _ => ⟨ad, rfl, hs.il _ hI, fun j u hu => ?_⟩⟩⟩
      · have hjl := (List.getElem?_eq_some_iff.1 hj).1
        rw [List.getElem?_map, List.getElem?_range hjl] at hu
        cases hu
        exact hxx j x hj
      · have hjl : j < news.flatten.length := by have := (List.getElem?_eq_some_iff.1 hu).1; simpa using this
        rw [List.getElem?_map, List.getElem?_range hjl] at hu
        cases hu
        exact hcell j _ (List.getElem?_eq_getElem hjl)
  obtain ⟨v, xs, hsv, hown, hxs, hkr, hvL, hnew⟩ : ∃ v xs, a.eval s = v ∧ w.ownsRow 0 e k v rows.length xs ∧ RepFs w E.I rows.flatten xs ∧ (∀ r ∈ rows, r.length = k) ∧ (∀ g, v.ownB = some g → ∃ c, ko = some c ∧ E.L c = some v) ∧ (∀ g, v.ownB = some g → w0.heap.size ≤ g ∨ X.X g) := by
    rcases hs0 with ⟨c, hc, hes, harr⟩ | ⟨hko, rfl, hes⟩
    · have h1 := hes ▸ hs.ev s
      generalize a.eval s = u at h1
      cases h1 with
      | c h1 => cases h1 with
        | o hL _ =>
          obtain ⟨v, us, hv, h2, h3, h4, h5⟩ := hs.arr _ _ _ _ harr
          rw [hL] at hv; cases hv
          exact ⟨_, us, rfl, h2.row hem, h3, h4, fun g _ => ⟨c, hc, hL⟩, h5⟩
    · refine ⟨_, [], hs.ev_s hes, World.ownsRow_nil _ _ _ _, ⟨rfl, fun j x u h => by simp at h⟩, fun r h => (by simp at h), fun g h => (by cases h), fun g h => (by cases h)⟩
  refine wp_append_any (P := P) w s x t hop 0 e ie ze k b hu1 hie hze hu2 hbe hzk hk0 v rows.length xs hsv hown w.heap.size Ax news.length cx us hxv hreads ?_ hn1 hn2 (Nat.zero_le _) fun v' w' h1 h2 h3 => ?_
  · intro u hu
    obtain ⟨j, hj, rfl⟩ := List.getElem_of_mem hu
    have hj2 : j < news.flatten.length := by rw [hus.1]; exact hj
    exact (hus.2 j _ _ (List.getElem?_eq_getElem hj2) (List.getElem?_eq_getElem hj)).one
  rw [← row_ownB hown] at h2 h3
  rw [← row_ownB h1] at h3
  have hmem : ∀ g, g < w.heap.size → v.ownB ≠ some g → w'.heap[g]? = w.heap[g]? := fun g hg hne => h2.block g hg fun h => hne h.symm
  have hmI : ∀ g, E.I g → w'.heap[g]? = w.heap[g]? := fun g hg => hmem g (hs.il g hg) fun hv => by
    obtain ⟨c, _, hc⟩ := hvL g hv
    exact (hs.al c v g hc hv).2.1 hg
  have hone : v'.oneCell' = true := by obtain ⟨A', c', e', _⟩ := own_slice h1; rw [e']; rfl
  let E' : Env := ⟨E.B, fun c => if c = d then some v' else if ko = some c then none else E.L c, E.I⟩
  have hLd : ko = some d ∨ E.L d = none := hfree.symm.imp id (hs.an d)
  have hL : ∀ c u, ko ≠ some c → E.L c = some u → E'.L c = some u := fun c u hne hu => by
    show (if c = d then some v' else if ko = some c then none else E.L c) = some u
    have hcd : c ≠ d := fun ed => by
      subst ed
      rcases hLd with h | h
      · exact hne h
      · rw [h] at hu; cases hu
    rw [if_neg hcd, if_neg hne]; exact hu
  have hLinv : ∀ c u, E'.L c = some u → (c = d ∧ u = v') ∨ (c ≠ d ∧ ko ≠ some c ∧ E.L c = some u) := fun c u h => by
    have h : (if c = d then some v' else if ko = some c then none else E.L c) = some u := h
    by_cases hcd : c = d
    · rw [if_pos hcd] at h; cases h; exact .inl ⟨hcd, rfl⟩
    · rw [if_neg hcd] at h
      by_cases hkc : ko = some c
      · rw [if_pos hkc] at h; cases h
      · rw [if_neg hkc] at h; exact .inr ⟨hcd, hkc, h⟩
  have hv'b : ∀ g, v'.ownB = some g → (v.ownB = some g) ∨ g = w.heap.size := fun g hg => by
    rcases h3 with h | h
    · rw [h] at hg; exact .inl hg
    · rw [h] at hg; cases hg; exact .inr rfl
  have hv'lt : ∀ g, v'.ownB = some g → g < w'.heap.size := fun g hg => ((OwnA.of h1 hem).lt g hg).2
  have hnotold : ∀ c u g, E.L c = some u → ko ≠ some c → u.ownB = some g → v.ownB ≠ some g := fun c u g hc hne hu hv => by
    obtain ⟨c', hc', hL'⟩ := hvL g hv
    have := hs.ai c c' u v g hc hL' hu hv
    subst this
    exact hne hc'
  have h' : Sim X w0 N ⟨fun t => killV ko (S.slots t), fun t => killB ko (S.blks t), fun c => if c = d then some (e, k, rows ++ news) else if ko = some c then none else S.arrs c⟩ E' a w' := by
    refine ⟨hs.chg.trans' (Chg.of_grown (S := fun i => v.ownB = some i) h2 fun i hi => hi.symm) fun i hi hv => (hnew i hv).resolve_left (by omega), hs.fr.keep (fun k o ho hc => hmem k (Array.getElem?_eq_some_iff.1 ho).1 fun hv => by obtain ⟨o', h1, h2⟩ := own_cells (.of hown hem) hv; rw [ho] at h1; cases h1; rw [hc] at h2; cases h2), hs.sz, fun t => killV_ok (E' := E') hmI (fun _ h => h) (fun _ _ h => h) hL (hs.slot t), fun t e' cs' ht => ?_, hs.inj, fun t g ht => ⟨Nat.lt_of_lt_of_le (hs.bl t g ht).1 h2.size, (hs.bl t g ht).2⟩, fun c e' n rows' hc => ?_, fun c u g hc hu => ?_, fun c c' u u' g hc hc' hu hu' => ?_, fun t ht => ?_, fun c hc => ?_, fun g hg => Nat.lt_of_lt_of_le (hs.il g hg) h2.size, hs.i0, hs.i1, hs.kp⟩
    · have ht : killB ko (S.blks t) = some (e', cs') := ht
      cases hb : S.blks t with
      | none => rw [hb] at ht; cases ht
      | some p =>
        obtain ⟨e0, cs0⟩ := p
        rw [hb] at ht
        cases ht
        obtain ⟨g, vs, hg, hblk, hreps, hnw⟩ := hs.blk _ _ _ hb
        refine ⟨g, vs, hg, ?_, killCs_ok (E' := E') hmI (fun _ h => h) (fun _ _ h => h) hL hreps, hnw⟩
        exact (hmem g (hs.bl t g hg).1 fun hv => by
          obtain ⟨c, _, hc⟩ := hvL g hv
          exact (hs.al c v g hc hv).2.2 t hg).trans hblk
    · have hc : (if c = d then some (e, k, rows ++ news) else if ko = some c then none else S.arrs c) = some (e', n, rows') := hc
      by_cases hcd : c = d
      · rw [if_pos hcd] at hc
        cases hc
        refine ⟨v', xs ++ us, if_pos hcd, by rw [List.length_append]; exact .of h1 hem, ?_, fun r hr => ?_, fun g hg => ?_⟩
        · refine ⟨by simp [hxs.1, hus.1], fun j x u hx hu => ?_⟩
          rw [List.flatten_append] at hx
          rcases Nat.lt_or_ge j rows.flatten.length with hj | hj
          · rw [List.getElem?_append_left hj] at hx
            rw [List.getElem?_append_left (by rw [← hxs.1]; exact hj)] at hu
            exact (hxs.2 j x u hx hu).mono hmI fun _ h => h
          · rw [List.getElem?_append_right hj] at hx
            rw [List.getElem?_append_right (by rw [← hxs.1]; exact hj), ← hxs.1] at hu
            exact (hus.2 _ x u hx hu).mono hmI fun _ h => h
        · rcases List.mem_append.1 hr with h | h
          · exact hkr r h
          · exact hk r h
        · rcases hv'b g hg with h | h
          · exact hnew g h
          · exact .inl (by rw [h]; exact hs.chg.size)
      · rw [if_neg hcd] at hc
        by_cases hkc : ko = some c
        · rw [if_pos hkc] at hc; cases hc
        · rw [if_neg hkc] at hc
          obtain ⟨u, us', hu, ho, hf, hl, hn⟩ := hs.arr _ _ _ _ hc
          refine ⟨u, us', hL c u hkc hu, ownA_keep ho fun g hg => hmem g (ho.lt g hg).2 (hnotold c u g hu hkc hg), ⟨hf.1, fun j x z hx hz => (hf.2 j x z hx hz).mono hmI fun _ h => h⟩, hl, hn⟩
    · rcases hLinv c u hc with ⟨rfl, rfl⟩ | ⟨hcd, hkc, hLc⟩
      · refine ⟨hv'lt g hu, fun hi => ?_, fun t ht => ?_⟩
        · rcases hv'b g hu with h | h
          · obtain ⟨c', _, hc'⟩ := hvL g h
            exact (hs.al c' v g hc' h).2.1 hi
          · have := hs.il g hi; omega
        · rcases hv'b g hu with h | h
          · obtain ⟨c', _, hc'⟩ := hvL g h
            exact (hs.al c' v g hc' h).2.2 t ht
          · have := (hs.bl t g ht).1; omega
      · obtain ⟨q1, q2, q3⟩ := hs.al c u g hLc hu
        exact ⟨Nat.lt_of_lt_of_le q1 h2.size, q2, q3⟩
    · rcases hLinv c u hc with ⟨rfl, rfl⟩ | ⟨hcd, hkc, hLc⟩ <;> rcases hLinv c' u' hc' with ⟨rfl, rfl⟩ | ⟨hcd', hkc', hLc'⟩
      · rfl
      · rcases hv'b g hu with h | h
        · exact absurd h (hnotold c' u' g hLc' hkc' hu')
        · have := (hs.al c' u' g hLc' hu').1; omega
      · rcases hv'b g hu' with h | h
        · exact absurd h (hnotold c u g hLc hkc hu)
        · have := (hs.al c u g hLc hu).1; omega
      · exact hs.ai c c' u u' g hLc hLc' hu hu'
    · have ht : killB ko (S.blks t) = none := ht
      cases hb : S.blks t with
      | none => exact hs.bn t hb
      | some p => rw [hb] at ht; cases ht
    · have hc : (if c = d then some (e, k, rows ++ news) else if ko = some c then none else S.arrs c) = none := hc
      show (if c = d then some v' else if ko = some c then none else E.L c) = none
      by_cases hcd : c = d
      · rw [if_pos hcd] at hc; cases hc
      · rw [if_neg hcd] at hc ⊢
        by_cases hkc : ko = some c
        · rw [if_pos hkc]
        · rw [if_neg hkc] at hc ⊢; exact hs.an c hc
  have := h'.env (.c (.o d)) v' (.c (.o (if_pos rfl) hone)) o.dst (fun t ht => by rw [hd] at ht; cases ht; exact hN)
  rw [hd] at this ⊢
  exact hK _ _ _ this
theorem step_app' {T : Nat → Option Ty} (hT : ∀ t y, T t = some y → TyOk P t y) {o : Oper} {p : Prop} {ko : Option Nat} {e : TypeId} {k d : Nat} {rows : List (List F)} {rn : List Nat} (h : effd P T S o.op = some (p, .app ko e k rows, rn)) (hp : p) (hd : o.dst = some d) (hN : d < N) (hfree : S.arrs d = none ∨ ko = some d) (hs : Sim X w0 N S E a w)
    {K : Act → World → Prop} {Q : Exit → Act → World → Prop} (hK : ∀ E' a' w', Sim X w0 N ⟨upd (fun t => killV ko (S.slots t)) d (.c (.o d)), fun t => killB ko (S.blks t), fun c => if c = d then some (e, k, rows) else if ko = some c then none else S.arrs c⟩ E' a' w' → K a' w') : o.wp P a w K Q := by
  obtain ⟨dst, op, type, pos, after, guard⟩ := o
  simp only at h hd
  unfold effd at h
  split at h
  case h_15 c =>
    obtain ⟨callee, args, argTypes⟩ := c
    simp only at h
    split at h
    · repeat' (first | (cases h; done) | split at h)
    · rename_i s x t t' e2 e3
      obtain rfl : args = #[s, x] := by rw [← e2]
      obtain rfl : argTypes = #[t, t'] := by rw [← e3]
      split at h
      · rename_i y hy
        split at h
        · rename_i e' k' b k2 news he hx
          split at h
          · rename_i c hes
            split at h <;> cases h
            rename_i e3 k3 rows0 harr
            obtain ⟨hem, rfl, rfl, rfl, rfl, h1, h2⟩ := hp
            exact step_app (hT _ _ hy) he hem rfl hd hN hx h1 h2 (.inl ⟨c, rfl, hes, harr⟩) hfree hs hK
          · rename_i hes
            cases h
            obtain ⟨hem, rfl, rfl, h1, h2⟩ := hp
            exact step_app (rows := []) (hT _ _ hy) he hem rfl hd hN hx (by simpa using h1) (by simpa using h2) (.inr ⟨rfl, rfl, hes⟩) hfree hs hK
          · cases h
        · cases h
      · cases h
    · split at h <;> cases h
    · split at h <;> cases h
    · cases h
  all_goals (repeat' (first | (cases h; done) | split at h))
end

/-! ### Calls, by data -/
def Env.pure (I : Nat → Prop) : Env := ⟨fun _ => none, fun _ => none, I⟩
/-- called with data, a function returns data; what stood stays -/
def CallD (P : Program) (f : FuncId) (args : List V) (res : V) : Prop := ∀ (w : World) (us : Array Value) (I : Nat → Prop), (∀ b, I b → b < w.heap.size) → args.length = us.size →
  (∀ (j : Nat) v u, args[j]? = some v → us[j]? = some u → RepV w (.pure I) v u) →
  Calls P f us w fun e w' => ∃ u I', e = .returned u ∧ RepV w' (.pure I') res u ∧ Below w.heap.size w w' ∧ (∀ b, I b → I' b) ∧ ∀ b, I' b → I b ∨ (w.heap.size ≤ b ∧ b < w'.heap.size)
/-- the function has a body, so that a call of it enters it -/
def HasBody (P : Program) (f : FuncId) : Prop := ∃ fn, P.funcs[f]? = some fn ∧ fn.body.isNone = false ∧ (fn.name == "runtime.NumGoroutine") = false

def fle : F → F → Prop
  | .s (.slice none 0 0), .l _ rows => rows = []
  | x, y => x = y
def cle : List C → List C → Prop
  | [], [] => True
  | .f x :: xs, .f y :: ys => fle x y ∧ cle xs ys
  | _, _ => False
def ple : List (Bool × List C) → List (Bool × List C) → Prop
  | [], [] => True
  | (b, x) :: xs, (c, y) :: ys => b = c ∧ cle x y ∧ ple xs ys
  | _, _ => False
/-- a closure that holds no block of the call's own -/
def noLoc : List W → Bool
  | [] => true
  | .loc _ _ :: _ => false
  | _ :: l => noLoc l
theorem noLoc_at : ∀ {l : List W}, noLoc l = true → ∀ x ∈ l, ∀ t o, x ≠ .loc t o
  | y :: ys, h, x, hx, t, o, e => by
    rcases List.mem_cons.1 hx with h1 | h1
    · subst h1; subst e; cases h
    · cases y <;> first | exact noLoc_at (l := ys) h x h1 t o e | cases h
def vle : V → V → Prop
  | .clo f fi ca, .clo f' fi' ca' => (f = f' ∧ fi = fi' ∧ ca = ca') ∧ noLoc (fi ++ ca) = true
  | .clo f [] ca, .c (.f (.fc f' cs)) => f = f' ∧ ca = cs.map .rd
  | .c x, .c y => cle [x] [y]
  | .agg xs, .agg ys => cle xs ys
  | .tup xs, .tup ys => ple xs ys
  | .rd xs, .rd ys => xs = ys
  | _, _ => False
def vles : List V → List V → Prop
  | [], [] => True
  | x :: xs, y :: ys => vle x y ∧ vles xs ys
  | _, _ => False

section
variable {P : Program} {X : Fr} {w0 w : World} {N : Nat} {S : St} {E : Env} {a : Act}
theorem fle_ok {I : Nat → Prop} {x y : F} {u : Value} (h : fle x y) (hx : RepF w I x u) : RepF w I y u := by
  unfold fle at h
  split at h
  · subst h
    cases hx
    exact .e
  · subst h; exact hx
theorem cle_ok {E E' : Env} (hI : E'.I = E.I) : ∀ {xs ys : List C} {us : List Value}, cle xs ys → Reps w E xs us → Reps w E' ys us
  | [], [], us, _, hx => ⟨hx.1, fun j x u h => by simp at h⟩
  | [], _ :: _, _, h, _ => by simp [cle] at h
  | x :: _, [], _, h, _ => by cases x <;> simp [cle] at h
  | x :: xs, y :: ys, us, h, hx => by
    cases x with
    | o => cases y <;> simp [cle] at h
    | un => cases y <;> simp [cle] at h
    | p => cases y <;> simp [cle] at h
    | f x =>
      cases y with
      | o => simp [cle] at h
      | un => simp [cle] at h
      | p => simp [cle] at h
      | f y =>
        simp only [cle] at h
        match us, hx with
        | [], hx => have := hx.1; simp at this
        | u :: us, hx =>
          have ih := cle_ok hI h.2 (⟨by simpa using hx.1, fun j => hx.2 (j + 1)⟩ : Reps w E xs us)
          have h0 := hx.2 0 _ u rfl rfl
          cases h0 with
          | f h0 =>
            refine ⟨by simpa using ih.1, fun j z v hz hv => ?_⟩
            match j with
            | 0 => simp at hz hv; subst hz; subst hv; exact .f (hI ▸ fle_ok h.1 h0)
            | j + 1 => exact ih.2 j z v (by simpa using hz) (by simpa using hv)
theorem ple_ok {E E' : Env} (hI : E'.I = E.I) : ∀ {xs ys : List (Bool × List C)}, ple xs ys → xs.length = ys.length ∧ ∀ (j : Nat) y u, ys[j]? = some y → (∀ x, xs[j]? = some x → RepP w E x u) → RepP w E' y u
  | [], [], _ => ⟨rfl, fun j y u h => by simp at h⟩
  | [], _ :: _, h => by simp [ple] at h
  | _ :: _, [], h => by simp [ple] at h
  | (b, x) :: xs, (c, y) :: ys, h => by
    obtain ⟨rfl, h1, h2⟩ := h
    have ih := ple_ok hI h2
    refine ⟨by simp [ih.1], fun j z u hz hx => ?_⟩
    match j with
    | j + 1 => exact ih.2 j z u (by simpa using hz) fun x h => hx x (by simpa using h)
    | 0 =>
      simp at hz
      subst hz
      have h0 := hx (b, x) rfl
      cases b
      · obtain ⟨z, e, hz⟩ := h0
        subst e
        have := cle_ok (w := w) (us := [u]) hI h1 ⟨rfl, fun j q v hq hv => by
          match j with
          | 0 => simp at hq hv; subst hq; subst hv; exact hz
          | j + 1 => simp at hq⟩
        match y, this with
        | [], h => have := h.1; simp at this
        | [y], h => exact ⟨y, rfl, h.2 0 y u rfl rfl⟩
        | _ :: _ :: _, h => have := h.1; simp at this
      · obtain ⟨us, e, hz⟩ := h0
        exact ⟨us, e, cle_ok hI h1 hz⟩
theorem noLocs_ok {E E' : Env} (hI : E'.I = E.I) {l : List W} {us : List Value} (h : ∀ x ∈ l, ∀ t o, x ≠ .loc t o) (hx : RepWs w E l us) : RepWs w E' l us := ⟨hx.1, fun j x u hj hu => by
  have h1 := hx.2 j x u hj hu
  have h2 := h x (List.mem_of_getElem? hj)
  cases h1 with
  | f h => exact .f (hI ▸ h)
  | agg h => exact .agg (hI ▸ h)
  | loc h => exact absurd rfl (h2 _ _)
  | rd us h1 h4 h3 => exact .rd us (hI ▸ h1) h4 (hI ▸ h3)⟩
theorem vle_ok {E E' : Env} (hI : E'.I = E.I) {x y : V} {u : Value} (h : vle x y) (hx : RepV w E x u) : RepV w E' y u := by
  unfold vle at h
  split at h
  · obtain ⟨⟨rfl, rfl, rfl⟩, hn⟩ := h
    have hn := noLoc_at hn
    cases hx with | clo h1 h2 => exact .clo (noLocs_ok hI (fun x hx => hn x (List.mem_append.2 (.inl hx))) h1) (noLocs_ok hI (fun x hx => hn x (List.mem_append.2 (.inr hx))) h2)
  · obtain ⟨rfl, rfl⟩ := h
    cases hx with
    | @clo _ _ _ us vs h1 h2 =>
      have hus : us = #[] := Array.eq_empty_of_size_eq_zero (by have := h1.1; simpa using this.symm)
      subst hus
      exact .c (.f (hI ▸ fc_of h2))
  · cases hx with
    | c hx =>
      rename_i x y
      have := cle_ok (w := w) (us := [u]) hI h ⟨rfl, fun j q v hq hv => by
        match j with
        | 0 => simp at hq hv; subst hq; subst hv; exact hx
        | j + 1 => simp at hq⟩
      exact .c (this.2 0 y u rfl rfl)
  · cases hx with | agg hx => exact .agg (cle_ok hI h hx)
  · cases hx with
    | tup hl hx =>
      obtain ⟨h1, h2⟩ := ple_ok (w := w) (E := E) hI h
      exact .tup (by rw [← h1, hl]) fun j y u hy hu => h2 j y u hy fun x hxx => hx j x u hxx hu
  · subst h
    cases hx with | rd us h1 h2 h3 => exact .rd us (hI ▸ h1) h2 (hI ▸ h3)
  · cases h
theorem vles_ok {E E' : Env} (hI : E'.I = E.I) : ∀ {xs ys : List V}, vles xs ys → xs.length = ys.length ∧ ∀ (j : Nat) y u, ys[j]? = some y → (∀ x, xs[j]? = some x → RepV w E x u) → RepV w E' y u
  | [], [], _ => ⟨rfl, fun j y u h => by simp at h⟩
  | [], _ :: _, h => by simp [vles] at h
  | _ :: _, [], h => by simp [vles] at h
  | x :: xs, y :: ys, h => by
    have ih := vles_ok hI h.2
    refine ⟨by simp [ih.1], fun j z u hz hx => ?_⟩
    match j with
    | 0 => simp at hz; subst hz; exact vle_ok hI h.1 (hx x rfl)
    | j + 1 => exact ih.2 j z u (by simpa using hz) fun x h => hx x (by simpa using h)
theorem Sim.called {w' : World} {I' : Nat → Prop} {res : V} {u : Value} (hs : Sim X w0 N S E a w) (hr : RepV w' (.pure I') res u) (hbel : Below w.heap.size w w') (hI : ∀ b, E.I b → I' b) (hI' : ∀ b, I' b → E.I b ∨ w.heap.size ≤ b ∧ b < w'.heap.size) (d : Option Nat) (hd : ∀ t, d = some t → t < N) :
    ∃ E', Sim X w0 N { S with slots := putS S.slots d res } E' (a.put d u) w' := by
  have h := hs.grow hbel
  have h' : Sim X w0 N S ⟨E.B, E.L, I'⟩ a w' := by
    have hle : Env.Le w' w' E ⟨E.B, E.L, I'⟩ := ⟨fun _ _ => rfl, hI, fun _ _ h => h, fun _ _ h => h⟩
    refine ⟨h.chg, (hs.fr.mem fun b hb => (hI' b hb).imp id fun h => .inl h.1).below hbel, h.sz, fun t => (h.slot t).mono hle, fun t e cs ht => ?_, h.inj, fun t b ht => ⟨(h.bl t b ht).1, fun hi => ?_⟩, fun k e n rows hk => ?_, fun k v b hv hb => ⟨(h.al k v b hv hb).1, fun hi => ?_, (h.al k v b hv hb).2.2⟩, h.ai, h.bn, h.an, fun b hi => ?_, fun b hb => hI b (hs.i0 b hb), fun b hi => ?_, h.kp⟩
    · obtain ⟨b, vs, h1, h2, h3, h4⟩ := h.blk t e cs ht
      exact ⟨b, vs, h1, h2, h3.mono hle, h4⟩
    · rcases hI' b hi with h1 | h1
      · exact (hs.bl t b ht).2 h1
      · have := (hs.bl t b ht).1; omega
    · obtain ⟨v, us, h1, h2, h3, h4, h5⟩ := h.arr k e n rows hk
      exact ⟨v, us, h1, h2, ⟨h3.1, fun j x u hx hu => (h3.2 j x u hx hu).mono (fun _ _ => rfl) hI⟩, h4, h5⟩
    · rcases hI' b hi with h1 | h1
      · exact (hs.al k v b hv hb).2.1 h1
      · have := (hs.al k v b hv hb).1; omega
    · rcases hI' b hi with h1 | h1
      · exact h.il b h1
      · exact h1.2
    · rcases hI' b hi with h1 | h1
      · exact hs.i1 b h1
      · exact .inr (.inl (Nat.le_trans hs.chg.size h1.1))
  have hr' : RepV w' ⟨E.B, E.L, I'⟩ res u := hr.mono ⟨fun _ _ => rfl, fun _ h => h, fun _ _ h => (by cases h), fun _ _ h => (by cases h)⟩
  exact ⟨_, h'.env res u hr' d hd⟩
/-- a call, by data -/
theorem step_call {o : Oper} {c : Call} {f : FuncId} {as : List V} {res : V} (hop : o.op = .call c) (hf : c.callee = .value (.func f) ∨ ∃ t, c.callee = .value (.tmp t) ∧ S.slots t = .c (.f (.s (.func (.func f) #[] #[])))) (hb : HasBody P f) (hc : CallD P f as res) (ha : vles (c.args.toList.map (ev S)) as) (hs : Sim X w0 N S E a w) (hd : ∀ t, o.dst = some t → t < N)
    {K : Act → World → Prop} {Q : Exit → Act → World → Prop} (hK : ∀ E' a' w', Sim X w0 N { S with slots := putS S.slots o.dst res } E' a' w' → K a' w') : o.wp P a w K Q := by
  obtain ⟨fn, hfn, hbody, hnm⟩ := hb
  obtain ⟨hl, hv⟩ := vles_ok (w := w) (E := E) (E' := .pure E.I) rfl ha
  have hx : (execOp a.eval o).run P w = .ok (.enter f (c.args.map a.eval)) w := by
    obtain ⟨callee, args, argTypes⟩ := c
    simp only at hf
    have h1 : fn.body ≠ none := fun h => by simp [h] at hbody
    have h2 : fn.name ≠ "runtime.NumGoroutine" := by simpa using hnm
    rcases hf with hf | ⟨t, hf, ht⟩
    · subst hf
      simp [execOp, hop, resolve, invoke, Act.eval, Deferred.ofValue, callFunc, hfn, h1, h2]
    · subst hf
      have hx' := hs.ev (.tmp t)
      rw [show ev S (.tmp t) = S.slots t from rfl, ht] at hx'
      generalize hu : a.eval (.tmp t) = u at hx'
      obtain rfl := rep_s hx'
      simp [execOp, hop, resolve, invoke, hu, Deferred.ofValue, callFunc, hfn, h1, h2]
  unfold Oper.wp
  rw [hx]
  refine Calls.mono (hc w (c.args.map a.eval) E.I hs.il (by rw [← hl]; simp) fun j v u h1 h2 => hv j v u h1 fun x hx => ?_) ?_
  · rw [List.getElem?_map] at hx
    rw [Array.getElem?_map] at h2
    cases hq : c.args[j]? with
    | none => simp [hq] at h2
    | some q =>
      simp [hq] at h2
      rw [show c.args.toList[j]? = some q by simpa using hq] at hx
      cases hx
      subst h2
      exact hs.ev q
  · rintro e w' ⟨u, I', rfl, hr, hbel, hI, hI'⟩
    obtain ⟨E', h'⟩ := hs.called hr hbel hI hI' o.dst hd
    exact hK _ _ _ h'
end

/-! ### A row of operations -/
structure Oq where
  dst : Option Nat
  op : Op
  guard : Option (Option Nat × Bool)
def qOf (ops : Array Oper) (i : Nat) : Option Oq := (ops[i]?).map fun o => ⟨o.dst, o.op, o.guard.map fun g => ((ops[g.1]?).bind (·.dst), g.2)⟩
def prep (ops : Array Oper) : List Oq := (List.range ops.size).filterMap (qOf ops)
def CallC (P : Program) (f : FuncId) (args : List V) (res : V) : Prop := HasBody P f ∧ CallD P f args res
/-- A where the operation is carried out, B where not -/
def gd (S : St) (g : Option (Option Nat × Bool)) (A B : Prop) : Prop := match g with
  | none => A
  | some (none, _) => B
  | some (some t, want) => match S.slots t with
    | .c (.f (.s (.bool b))) => (b = want → A) ∧ (b ≠ want → B)
    | .no => B
    | _ => False
def eff1 (P : Program) (T : Nat → Option Ty) (o : Oq) (S : St) (K : St → Prop) : Prop := match effd P T S o.op with
  | some (p, .put v, _) => p ∧ K ⟨putS S.slots o.dst v, S.blks, S.arrs⟩
  | some (p, .box e cs, _) => match o.dst with
    | some d => p ∧ S.blks d = none ∧ K ⟨upd S.slots d (.loc d 0), upd S.blks d (some (e, cs)), S.arrs⟩
    | none => False
  | some (p, .store b e cs, _) => o.dst = none ∧ p ∧ K ⟨S.slots, upd S.blks b (some (e, cs)), S.arrs⟩
  | some (p, .mk _ k rows, _) => p ∧ K ⟨putS S.slots o.dst (.c (.f (.l k rows))), S.blks, S.arrs⟩
  | some (p, .app ko e k rows, _) => match o.dst with
    | some d => p ∧ (S.arrs d = none ∨ ko = some d) ∧ K ⟨upd (fun t => killV ko (S.slots t)) d (.c (.o d)), fun t => killB ko (S.blks t), fun c => if c = d then some (e, k, rows) else if ko = some c then none else S.arrs c⟩
    | none => False
  | some (_, .elt _ _ _ _, _) => False
  | none => False
def calleeOf (S : St) : Op → Option (FuncId × List Operand)
  | .call c => match c.callee with
    | .value (.func f) => some (f, c.args.toList)
    | .value (.tmp t) => match S.slots t with
      | .c (.f (.s (.func (.func f) fi ca))) => if fi.size = 0 ∧ ca.size = 0 then some (f, c.args.toList) else none
      | _ => none
    | _ => none
  | _ => none
theorem callee_is {S : St} {op : Op} {f : FuncId} {args : List Operand} (h : calleeOf S op = some (f, args)) : ∃ c, op = .call c ∧ args = c.args.toList ∧ (c.callee = .value (.func f) ∨ ∃ t, c.callee = .value (.tmp t) ∧ S.slots t = .c (.f (.s (.func (.func f) #[] #[])))) := by
  unfold calleeOf at h
  split at h
  · rename_i c
    split at h
    · rename_i hc
      cases h; exact ⟨c, rfl, rfl, .inl hc⟩
    · rename_i t hc
      split at h
      · rename_i g fi ca ht
        split at h
        · rename_i hz
          cases h
          have e1 := Array.eq_empty_of_size_eq_zero hz.1
          have e2 := Array.eq_empty_of_size_eq_zero hz.2
          subst e1; subst e2
          exact ⟨c, rfl, rfl, .inr ⟨t, hc, ht⟩⟩
        · cases h
      · cases h
    · cases h
  · cases h
def one (P : Program) (T : Nat → Option Ty) (o : Oq) (S : St) (K : St → Prop) : Prop := match calleeOf S o.op with
  | some (f, args) => ∃ as res, CallC P f as res ∧ vles (args.map (ev S)) as ∧ K ⟨putS S.slots o.dst res, S.blks, S.arrs⟩
  | none => eff1 P T o S K
def ex (P : Program) (T : Nat → Option Ty) : List Oq → St → (St → Prop) → Prop
  | [], S, K => K S
  | o :: os, S, K => gd S o.guard (one P T o S fun S' => ex P T os S' K) (ex P T os ⟨putS S.slots o.dst .no, S.blks, S.arrs⟩ K)

/-- the same, over the operations themselves -/
def gOf (ops : Array Oper) : Option (Nat × Bool) → Option (Option Nat × Bool)
  | none => none
  | some (j, b) => some ((ops[j]?).bind (·.dst), b)
def exA (P : Program) (T : Nat → Option Ty) (ops : Array Oper) : List Oper → St → (St → Prop) → Prop
  | [], S, K => K S
  | o :: os, S, K => gd S (gOf ops o.guard) (one P T ⟨o.dst, o.op, none⟩ S fun S' => exA P T ops os S' K) (exA P T ops os ⟨putS S.slots o.dst .no, S.blks, S.arrs⟩ K)
theorem one_g {P : Program} {T : Nat → Option Ty} {d : Option Nat} {op : Op} {g g' : Option (Option Nat × Bool)} {S : St} {K : St → Prop} : one P T ⟨d, op, g⟩ S K = one P T ⟨d, op, g'⟩ S K := rfl
theorem exA_ex {P : Program} {T : Nat → Option Ty} {ops : Array Oper} {K : St → Prop} : ∀ (l : List Oper) (S : St), exA P T ops l S K = ex P T (l.map fun o => ⟨o.dst, o.op, o.guard.map fun g => ((ops[g.1]?).bind (·.dst), g.2)⟩) S K
  | [], S => rfl
  | o :: l, S => by
    simp only [exA, List.map_cons, ex]
    have hg : gOf ops o.guard = o.guard.map fun g => ((ops[g.1]?).bind (·.dst), g.2) := by cases o.guard <;> rfl
    rw [hg]
    congr 1
    · exact congrArg _ (funext fun S' => exA_ex l S')
    · exact exA_ex l _
theorem prep_eq (ops : Array Oper) : prep ops = ops.toList.map fun o => ⟨o.dst, o.op, o.guard.map fun g => ((ops[g.1]?).bind (·.dst), g.2)⟩ := by
  unfold prep
  have key : (List.range ops.size).filterMap (qOf ops) = (List.range ops.toList.length).filterMap fun i => (ops.toList[i]?).map fun o => (⟨o.dst, o.op, o.guard.map fun g => ((ops[g.1]?).bind (·.dst), g.2)⟩ : Oq) := by
    simp only [Array.length_toList]
    congr 1
    funext i
    simp [qOf]
  rw [key]
  have : ∀ (l : List Oper) (f : Oper → Oq), (List.range l.length).filterMap (fun i => (l[i]?).map f) = l.map f := by
    intro l f
    induction l with
    | nil => rfl
    | cons x l ih =>
      rw [List.length_cons, List.range_succ_eq_map, List.filterMap_cons_some (f := fun i => ((x :: l)[i]?).map f) (a := 0) (b := f x) rfl, List.filterMap_map, List.map_cons]
      congr 1
  exact this ops.toList _
section
variable {P : Program} {X : Fr} {w0 : World} {N : Nat} {T : Nat → Option Ty}
theorem one_ok (hT : ∀ t y, T t = some y → TyOk P t y) {S : St} {E : Env} {a : Act} {w : World} {o : Oper} {g : Option (Option Nat × Bool)} {K : St → Prop} (h : one P T ⟨o.dst, o.op, g⟩ S K) (hs : Sim X w0 N S E a w) (hd : ∀ t, o.dst = some t → t < N)
    {K' : Act → World → Prop} {Q : Exit → Act → World → Prop} (hK : ∀ S' E' a' w', K S' → Sim X w0 N S' E' a' w' → K' a' w') : o.wp P a w K' Q := by
  unfold one at h
  simp only at h
  split at h
  · rename_i f args hc
    obtain ⟨as, res, ⟨hb, hcd⟩, ha, hk⟩ := h
    obtain ⟨c, hop, rfl, hcal⟩ := callee_is hc
    exact step_call hop hcal hb hcd ha hs hd fun E' a' w' h => hK _ _ _ _ hk h
  · unfold eff1 at h
    simp only at h
    split at h
    · rename_i p v rn he
      exact step_put hT he h.1 hs hd fun E' a' w' h' => hK _ _ _ _ h.2 h'
    · rename_i p e cs rn he
      split at h
      · rename_i d hdd
        obtain ⟨vs, h1, h2⟩ := exec_box hT he hs
        exact step_box hdd (hd d hdd) h.2.1 hs h1 h2 fun E' a' w' h' => hK _ _ _ _ h.2.2 h'
      · exact h.elim
    · rename_i p b e cs rn he
      obtain ⟨cs0, gg, vs, h1, h2, h3, h4⟩ := exec_store hT he h.2.1 hs
      exact step_store h.1 h1 h2 hs h3 h4 fun E' a' w' h' => hK _ _ _ _ h.2.2 h'
    · rename_i p e k rows rn he
      exact step_mk hT he h.1 hs hd fun E' a' w' h' => hK _ _ _ _ h.2 h'
    · rename_i p ko e k rows rn he
      split at h
      · rename_i d hdd
        exact step_app' hT he h.1 hdd (hd d hdd) h.2.1 hs fun E' a' w' h' => hK _ _ _ _ h.2.2 h'
      · exact h.elim
    · exact h.elim
    · exact h.elim
theorem yield_ok {S : St} {E : Env} {a : Act} {w : World} (hs : Sim X w0 N S E a w) {ops : Array Oper} {o : Oper} (hd : ∀ (i : Nat) (o : Oper), ops[i]? = some o → ∀ t, o.dst = some t → t < N) {A B : Prop} (h : gd S (o.guard.map fun g => ((ops[g.1]?).bind (·.dst), g.2)) A B) :
    (Region.wanted o (yielded ops a.tmps) = true ∧ A) ∨ (Region.wanted o (yielded ops a.tmps) = false ∧ B) := by
  obtain ⟨dst, op, type, pos, after, guard⟩ := o
  cases guard with
  | none => exact .inl ⟨rfl, h⟩
  | some g =>
    obtain ⟨j, want⟩ := g
    simp only [Option.map_some] at h
    cases hj : (ops[j]?).bind (·.dst) with
    | none =>
      rw [hj] at h
      refine .inr ⟨?_, h⟩
      simp [Region.wanted, yielded, hj]
    | some t =>
      rw [hj] at h
      have htN : t < N := by
        cases ho : ops[j]? with
        | none => simp [ho] at hj
        | some o' => simp [ho] at hj; exact hd j o' ho t hj
      have hslot := hs.slot t
      have hlt : t < a.tmps.size := by rw [hs.sz]; exact htN
      have hgt : a.tmps[t]? = some (a.tmps.getD t undef) := by rw [Array.getD_eq_getD_getElem?, Array.getElem?_eq_getElem hlt]; rfl
      simp only [gd] at h
      split at h
      · rename_i b hb
        have e : a.tmps.getD t undef = .bool b := rep_s (hb ▸ hslot)
        rw [e] at hgt
        have hy : yielded ops a.tmps j = some b := by simp [yielded, hj, hgt]
        by_cases hbw : b = want
        · exact .inl ⟨by simp [Region.wanted, hy, hbw], h.1 hbw⟩
        · exact .inr ⟨by simp [Region.wanted, hy, hbw], h.2 hbw⟩
      · rename_i hb
        rw [hb] at hslot
        generalize hu : a.tmps.getD t undef = u at hslot hgt
        cases hslot
        exact .inr ⟨by simp [Region.wanted, yielded, hj, hgt, undef], h⟩
      · exact h.elim
/-- every function, in a round or in none -/
def rdF (r : Option Nat) : Fence := { Fence.wide with round := r }
theorem callsIn_rd {r : Option Nat} {n : Nat} {P : Program} {f : FuncId} {args : Array Value} {w : World} {R : Ending → World → Prop} (h : Calls P f args w R) : CallsIn (rdF r) n P f args w R := callsIn_wide.2 h
theorem op_in {r : Option Nat} {n : Nat} {P : Program} {o : Oper} {a : Act} {w : World} {K : Act → World → Prop} {Q : Exit → Act → World → Prop} (hd : ∀ c, o.op ≠ .defer c) (h : o.wp P a w K Q) : o.wpIn (rdF r) n P a w K Q := by
  refine ⟨fun _ _ => trivial, ?_⟩
  rw [Oper.semAt_eq _ _ _ hd]
  unfold Oper.wp at h
  generalize (execOp a.eval o).run P w = res at h
  unfold Oper.upon at h
  split at h
  · exact h
  · exact h
  · exact h
  · exact ⟨fun h => (by cases h), callsIn_rd h⟩
  · rename_i row args w'
    refine ⟨fun h => (by cases h), fun c cs _ => ?_⟩
    obtain ⟨v, w2, h1, h2⟩ := h c cs
    exact ⟨v, w2, h1, stepsIn_wide.2 h2⟩
  · exact h
  · exact h.elim
theorem one_nd {P : Program} {T : Nat → Option Ty} {S : St} {d : Option Nat} {op : Op} {g : Option (Option Nat × Bool)} {K : St → Prop} (h : one P T ⟨d, op, g⟩ S K) : ∀ c, op ≠ .defer c := fun c e => by
  subst e
  simp [one, calleeOf, eff1, effd] at h
theorem ex_ok (hT : ∀ t y, T t = some y → TyOk P t y) {ops : Array Oper} (hd : ∀ (i : Nat) (o : Oper), ops[i]? = some o → ∀ t, o.dst = some t → t < N) {Q : Exit → Act → World → Prop} {K : St → Prop} (hK : ∀ S' E' a' w', K S' → Sim X w0 N S' E' a' w' → Q .normal a' w') :
    ∀ (l : List Nat) {S : St} {E : Env} {a : Act} {w : World}, ex P T (l.filterMap (qOf ops)) S K → Sim X w0 N S E a w → wpOpsIn (rdF X.rd) 0 P ops Q l a w
  | [], S, E, a, w, h, hs => hK _ _ _ _ h hs
  | i :: l, S, E, a, w, h, hs => by
    rw [wpOpsIn_cons]
    unfold wpOpIn
    cases ho : ops[i]? with
    | none =>
      rw [List.filterMap_cons_none (by simp [qOf, ho])] at h
      exact ex_ok hT hd hK l h hs
    | some o =>
      rw [List.filterMap_cons_some (b := ⟨o.dst, o.op, o.guard.map fun g => ((ops[g.1]?).bind (·.dst), g.2)⟩) (by simp [qOf, ho])] at h
      simp only [ex] at h
      rcases yield_ok hs hd h with ⟨hw, h1⟩ | ⟨hw, h1⟩
      · simp only [hw, if_true]
        exact op_in (one_nd h1) (one_ok hT h1 hs (hd i o ho) fun S' E' a' w' h2 h3 => ex_ok hT hd hK l h2 h3)
      · simp only [hw, Bool.false_eq_true, if_false]
        exact ⟨fun _ _ => trivial, ex_ok hT hd hK l h1 (hs.env .no undef .no o.dst (hd i o ho))⟩
end

/-! ### Code -/
/-- code, by states -/
def DW (P : Program) (X : Fr) (w0 : World) (N : Nat) (c : Code) (Q : Exit → St → Prop) (S : St) : Prop :=
  ∀ (E : Env) (a : Act) (w : World), Sim X w0 N S E a w → c.wpIn (rdF X.rd) 0 P (fun e a' w' => ∃ S' E', Q e S' ∧ Sim X w0 N S' E' a' w') a w
def thenD (R : St → Prop) (Q : Exit → St → Prop) : Exit → St → Prop
  | .normal, S => R S
  | e, S => Q e S
def inBlockD (id : Nat) (Q : Exit → St → Prop) : Exit → St → Prop
  | .exit i, S => if i = id then Q .normal S else Q (.exit i) S
  | e, S => Q e S
/-- what is known of S is known of S' -/
def Weak (X : Fr) (S S' : St) : Prop := ∀ (w0 : World) (N : Nat) (E : Env) (a : Act) (w : World), Sim X w0 N S E a w → ∃ E', Sim X w0 N S' E' a w
section
variable {P : Program} {X : Fr} {w0 : World} {N : Nat} {T : Nat → Option Ty} {Q : Exit → St → Prop} {S : St}
theorem dw_mono {c : Code} {Q' : Exit → St → Prop} (h : DW P X w0 N c Q S) (hq : ∀ e S, Q e S → Q' e S) : DW P X w0 N c Q' S := fun E a w hs =>
  wpIn_mono (h E a w hs) fun _ _ _ ⟨S', E', q, s⟩ => ⟨S', E', hq _ _ q, s⟩
theorem dw_weak {c : Code} {S' : St} (hw : Weak X S S') (h : DW P X w0 N c Q S') : DW P X w0 N c Q S := fun _ a w hs => by
  obtain ⟨E', hs'⟩ := hw _ _ _ _ _ hs
  exact h E' a w hs'
theorem dw_seq {x y : Code} (h : DW P X w0 N x (thenD (DW P X w0 N y Q) Q) S) : DW P X w0 N (.seq x y) Q S := fun E a w hs =>
  wpIn_seq (wpIn_mono (h E a w hs) fun e a' w' ⟨S', E', q, s⟩ => by
    cases e with
    | normal => exact q E' a' w' s
    | _ => exact ⟨S', E', q, s⟩)
theorem dw_seq_k {x y : Code} (h : ∀ R : St → Prop, (∀ S', DW P X w0 N y Q S' → R S') → DW P X w0 N x (thenD R Q) S) : DW P X w0 N (.seq x y) Q S := dw_seq (h _ fun _ h => h)
theorem dw_skip (h : Q .normal S) : DW P X w0 N .skip Q S := fun E _ _ hs => wpIn_skip ⟨S, E, h, hs⟩
theorem dw_label {l : Nat} (h : Q .normal S) : DW P X w0 N (.label l) Q S := fun E _ _ hs => wpIn_label ⟨S, E, h, hs⟩
theorem dw_exit {id : Nat} (h : Q (.exit id) S) : DW P X w0 N (.exit id) Q S := fun E _ _ hs => wpIn_exit ⟨S, E, h, hs⟩
theorem dw_ret (h : Q .ret S) : DW P X w0 N .ret Q S := fun E _ _ hs => wpIn_ret ⟨S, E, h, hs⟩
theorem dw_cond {c : Operand} {x y : Code} {b : Bool} (hc : ev S c = .c (.f (.s (.bool b)))) (h1 : b = true → DW P X w0 N x Q S) (h2 : b = false → DW P X w0 N y Q S) : DW P X w0 N (.cond c x y) Q S := fun E a w hs => by
  refine wpIn_cond (t := b) (hs.ev_s hc) ?_
  cases b
  · exact h2 rfl E a w hs
  · exact h1 rfl E a w hs
theorem dw_block {id : Nat} {c : Code} (h : DW P X w0 N c (inBlockD id Q) S) : DW P X w0 N (.block id c) Q S := fun E a w hs =>
  wpIn_block (wpIn_mono (h E a w hs) fun e a' w' ⟨S', E', q, s⟩ => by
    cases e with
    | exit i =>
      simp only [Exit.inBlock, inBlockD] at q ⊢
      split
      · rename_i hi; rw [if_pos hi] at q; exact ⟨S', E', q, s⟩
      · rename_i hi; rw [if_neg hi] at q; exact ⟨S', E', q, s⟩
    | _ => exact ⟨S', E', q, s⟩)
theorem dw_loop {c : Code} {ι : Type} (I : ι → St) (μ : ι → Nat) (i0 : ι) (h0 : Weak X S (I i0)) (round : ∀ i, DW P X w0 N c (thenD (fun S' => ∃ j, μ j < μ i ∧ Weak X S' (I j)) Q) (I i)) : DW P X w0 N (.loop c) Q S := fun E a w hs => by
  obtain ⟨E0, hs0⟩ := h0 _ _ _ _ _ hs
  have key : ∀ n i, μ i = n → ∀ (E : Env) (a : Act) (w : World), Sim X w0 N (I i) E a w → (Code.loop c).wpIn (rdF X.rd) 0 P (fun e a' w' => ∃ S' E', Q e S' ∧ Sim X w0 N S' E' a' w') a w := by
    intro n i hn E a w hs b k cs hro hb hr
    have inner : ∀ n i, μ i = n → ∀ (E : Env) (a : Act) (w : World), Sim X w0 N (I i) E a w → ∃ e a' w', (∃ S' E', Q e S' ∧ Sim X w0 N S' E' a' w') ∧ ArrivesIn (Machine.fenced P (rdF X.rd)) P (lone (b.atR a (.code c :: .inLoop c :: k)) cs w) b k cs e a' w' := by
      intro n
      induction n using Nat.strongRecOn with
      | _ n ih =>
        intro i hn E a w hs
        obtain ⟨e, a₁, w₁, ⟨S', E', hq, hs'⟩, harr⟩ := round i E a w hs b (.inLoop c :: k) cs hro hb hr
        cases e with
        | normal =>
          obtain ⟨j, hlt, hw⟩ := hq
          obtain ⟨E'', hs''⟩ := hw _ _ _ _ _ hs'
          obtain ⟨e₂, a₂, w₂, hq₂, harr₂⟩ := ih (μ j) (hn ▸ hlt) j rfl E'' a₁ w₁ hs''
          exact ⟨e₂, a₂, w₂, hq₂, .of_steps (StepsIn.trans harr (.one (fenced_calm hb hr rfl) stepR_inLoop)) harr₂⟩
        | exit id => exact ⟨_, a₁, w₁, ⟨S', E', hq, hs'⟩, .pass (x := .inLoop c) rfl (fun _ _ => .inl (by simp)) harr⟩
        | goto l => exact ⟨_, a₁, w₁, ⟨S', E', hq, hs'⟩, .pass (x := .inLoop c) rfl (fun _ _ => .inl (by simp)) harr⟩
        | ret => exact ⟨_, a₁, w₁, ⟨S', E', hq, hs'⟩, .pass (x := .inLoop c) rfl (fun _ _ => .inl (by simp)) harr⟩
        | panic ch => exact ⟨_, a₁, w₁, ⟨S', E', hq, hs'⟩, .pass (x := .inLoop c) rfl (fun _ _ => .inl (by simp)) harr⟩
        | outgrown => exact ⟨_, a₁, w₁, ⟨S', E', hq, hs'⟩, .pass (x := .inLoop c) rfl (fun _ _ => .inl (by simp)) harr⟩
    obtain ⟨e, a', w', hq, harr⟩ := inner n i hn E a w hs
    exact ⟨e, a', w', hq, .of_steps (.one (fenced_calm hb hr rfl) stepR_loop) harr⟩
  exact key _ i0 rfl E0 a w hs0
def okN (N : Nat) (ops : Array Oper) : Bool := ops.toList.all fun o => match o.dst with
  | some d => decide (d < N)
  | none => true
theorem okN_ok {ops : Array Oper} (h : okN N ops = true) : ∀ (i : Nat) (o : Oper), ops[i]? = some o → ∀ t, o.dst = some t → t < N := fun i o ho t ht => by
  have hm : o ∈ ops.toList := by
    rw [← Array.getElem?_toList] at ho
    exact List.mem_of_getElem? ho
  have := List.all_eq_true.1 h o hm
  rw [ht] at this
  simpa using this
theorem dw_region_k {id : Nat} {ops : Array Oper} {R : St → Prop} (hT : ∀ t y, T t = some y → TyOk P t y) (hN : okN N ops = true) (h : exA P T ops ops.toList S R) : DW P X w0 N (.region id ops false) (thenD R Q) S := fun E a w hs =>
  wpIn_region (ex_ok hT (okN_ok hN) (fun S' E' _ _ hq hs => ⟨S', E', hq, hs⟩) _ (by rw [exA_ex, ← prep_eq] at h; exact h) hs)
theorem dw_region {id : Nat} {ops : Array Oper} (hT : ∀ t y, T t = some y → TyOk P t y) (hN : okN N ops = true) (h : exA P T ops ops.toList S (Q .normal)) : DW P X w0 N (.region id ops false) Q S := fun E a w hs =>
  wpIn_region (ex_ok hT (okN_ok hN) (fun S' E' _ _ hq hs => ⟨S', E', hq, hs⟩) _ (by rw [exA_ex, ← prep_eq] at h; exact h) hs)

/-! ### A function -/
def lkV (t : Nat) : List (Nat × V) → V
  | [] => .un
  | (k, v) :: r => if t = k then v else lkV t r
def lkB (t : Nat) : List (Nat × TypeId × List C) → Option (TypeId × List C)
  | [] => none
  | (k, v) :: r => if t = k then some v else lkB t r
theorem lkV_hit (t : Nat) (v : V) (r : List (Nat × V)) : lkV t ((t, v) :: r) = v := if_pos rfl
theorem lkV_miss {t k : Nat} (h : (t == k) = false) (v : V) (r : List (Nat × V)) : lkV t ((k, v) :: r) = lkV t r := if_neg (by simpa using h)
theorem lkV_end (t : Nat) : lkV t [] = .un := rfl
theorem lkB_hit (t : Nat) (v : TypeId × List C) (r : List (Nat × TypeId × List C)) : lkB t ((t, v) :: r) = some v := if_pos rfl
theorem lkB_miss {t k : Nat} (h : (t == k) = false) (v : TypeId × List C) (r : List (Nat × TypeId × List C)) : lkB t ((k, v) :: r) = lkB t r := if_neg (by simpa using h)
theorem lkB_end (t : Nat) : lkB t [] = none := rfl
theorem upd_miss {α : Type} (f : Nat → α) {t j : Nat} (v : α) (h : (j == t) = false) : upd f t v j = f j := if_neg (by simpa using h)
theorem lkV_eq (t : Nat) : ∀ (l : List (Nat × V)), lkV t l = (l.lookup t).getD .un
  | [] => rfl
  | (k, v) :: r => by
    rw [lkV, List.lookup_cons, lkV_eq t r]
    by_cases h : t = k
    · subst h; simp
    · have : (t == k) = false := by simpa using h
      simp [h, this]
theorem lkB_eq (t : Nat) : ∀ (l : List (Nat × TypeId × List C)), lkB t l = l.lookup t
  | [] => rfl
  | (k, v) :: r => by
    rw [lkB, List.lookup_cons, lkB_eq t r]
    by_cases h : t = k
    · subst h; simp
    · have : (t == k) = false := by simpa using h
      simp [h, this]
def noArr : Nat → Option (TypeId × Nat × List (List F)) := fun _ => none
theorem noArr_eq (t : Nat) : noArr t = none := rfl
def St.of (sl : List (Nat × V)) (bl : List (Nat × TypeId × List C)) : St := ⟨fun t => lkV t sl, fun t => lkB t bl, noArr⟩
theorem dw_norm {c : Code} (h : DW P X w0 N c (thenD (Q .normal) Q) S) : DW P X w0 N c Q S := dw_mono h fun e S hq => by
  cases e <;> exact hq
theorem dw_last_k {c : Code} {R0 : St → Prop} (h : ∀ R : St → Prop, (∀ S', R0 S' → R S') → DW P X w0 N c (thenD R Q) S) : DW P X w0 N c (thenD R0 Q) S := h R0 fun _ h => h
/-- the results of a function -/
def res1 (T : Nat → Option Ty) (S : St) : ResultVar → Option (Prop × V)
  | .tmp t => some (True, S.slots t)
  | .cell p t => match T t, S.slots p with
    | some y, .loc b off => match S.blks b with
      | some (_, cs) => some (off + y.k ≤ cs.length, pack y.agg ((cs.drop off).take y.k))
      | none => none
    | _, _ => none
def part1 : V → Option (Bool × List C)
  | .c x => some (false, [x])
  | .loc t off => some (false, [.p t off])
  | .agg xs => some (true, xs)
  | _ => none
def parts (T : Nat → Option Ty) (S : St) : List ResultVar → Option (Prop × List (Bool × List C))
  | [] => some (True, [])
  | r :: rs => match res1 T S r, parts T S rs with
    | some (p, v), some (q, xs) => match part1 v with
      | some x => some (p ∧ q, x :: xs)
      | none => none
    | _, _ => none
/-- what a function hands back -/
def resV (T : Nat → Option Ty) (S : St) (rs : List ResultVar) : Option (Prop × V) := match rs with
  | [r] => res1 T S r
  | rs => match parts T S rs with
    | some (p, xs) => some (p, .tup xs)
    | none => none
def Ret (T : Nat → Option Ty) (rs : List ResultVar) (res : V) (S : St) : Prop := match resV T S rs with
  | some (p, v) => p ∧ vle v res
  | none => False
def retQ (T : Nat → Option Ty) (rs : List ResultVar) (res : V) : Exit → St → Prop
  | .normal, S => Ret T rs res S
  | .ret, S => Ret T rs res S
  | _, _ => False
def resRun (tmps : Array Value) : ResultVar → Sem Value
  | .tmp t => pure (tmps.getD t undef)
  | .cell a t => do loadVar t (← asAddr (tmps.getD a undef))
theorem results_eq (fn : Func) (tmps : Array Value) : results fn tmps = (do let vs ← fn.results.mapM (resRun tmps); pure (if h : vs.size = 1 then vs[0] else .tuple vs)) := rfl
theorem res1_ok (hT : ∀ t y, T t = some y → TyOk P t y) {E : Env} {a : Act} {w : World} (hs : Sim X w0 N S E a w) {r : ResultVar} {p : Prop} {v : V} (h : res1 T S r = some (p, v)) (hp : p) :
    ∃ u, RepV w E v u ∧ Sem.run P (resRun a.tmps r) w = .ok u w := by
  unfold res1 at h
  split at h
  · cases h; exact ⟨_, hs.slot _, rfl⟩
  · rename_i b t
    split at h
    · rename_i y b' off hy hx
      split at h <;> cases h
      rename_i e cs hb
      have hx' := hx ▸ hs.slot b
      generalize hu : a.tmps.getD b undef = u at hx'
      cases hx' with
      | loc hB =>
        obtain ⟨g, vs, hB', hblk, hreps, _⟩ := hs.blk _ _ _ hb
        rw [hB] at hB'; cases hB'
        obtain ⟨u, h1, h2⟩ := load_ok (P := P) (w := w) (hT _ _ hy) (ad := ⟨_, off, none⟩) (xs := (cs.drop off).take y.k) (us := (vs.toList.drop off).take y.k) (by simp; omega) (hreps.part _ _) fun j v hv => by
          rw [add_plain, hblk.cell]
          rw [List.getElem?_take] at hv
          split at hv
          · rw [List.getElem?_drop] at hv; simpa using hv
          · cases hv
        refine ⟨u, h1, ?_⟩
        simp only [resRun, hu, asAddr]
        simpa using h2
    · cases h
theorem part1_ok {E : Env} {w : World} {v : V} {u : Value} {x : Bool × List C} (h : part1 v = some x) (hv : RepV w E v u) : RepP w E x u := by
  cases hv with
  | c hv => cases h; exact ⟨_, rfl, hv⟩
  | agg hv => cases h; exact ⟨_, rfl, hv⟩
  | loc hv => cases h; exact ⟨_, rfl, .p hv⟩
  | _ => cases h
theorem parts_ok (hT : ∀ t y, T t = some y → TyOk P t y) {E : Env} {a : Act} {w : World} (hs : Sim X w0 N S E a w) : ∀ {rs : List ResultVar} {p : Prop} {xs : List (Bool × List C)}, parts T S rs = some (p, xs) → p →
    ∃ us : List Value, us.length = xs.length ∧ (∀ (j : Nat) x u, xs[j]? = some x → us[j]? = some u → RepP w E x u) ∧ Sem.run P (rs.mapM (resRun a.tmps)) w = .ok us w
  | [], p, xs, h, _ => by cases h; exact ⟨[], rfl, fun j x u hx => by simp at hx, rfl⟩
  | r :: rs, p, xs, h, hp => by
    unfold parts at h
    split at h
    · rename_i p1 v p2 ys h1 h2
      split at h <;> cases h
      rename_i x hx
      obtain ⟨u, hv, hr⟩ := res1_ok hT hs h1 hp.1
      obtain ⟨us, hl, hus, hrs⟩ := parts_ok hT hs h2 hp.2
      refine ⟨u :: us, by simp [hl], fun j z w' hz hw => ?_, by simp only [List.mapM_cons, Sem.run_bind, hr, hrs, Result.andThen_ok]; rfl⟩
      match j with
      | 0 => simp at hz hw; subst hz; subst hw; exact part1_ok hx hv
      | j + 1 => exact hus j z w' (by simpa using hz) (by simpa using hw)
    · cases h
theorem parts_len : ∀ {rs : List ResultVar} {p : Prop} {xs : List (Bool × List C)}, parts T S rs = some (p, xs) → xs.length = rs.length
  | [], p, xs, h => by cases h; rfl
  | r :: rs, p, xs, h => by
    unfold parts at h
    split at h
    · rename_i p1 v p2 ys h1 h2
      split at h <;> cases h
      simp [parts_len h2]
    · cases h
theorem resV_ok (hT : ∀ t y, T t = some y → TyOk P t y) {E : Env} {a : Act} {w : World} (hs : Sim X w0 N S E a w) {fn : Func} {p : Prop} {v : V} (h : resV T S fn.results.toList = some (p, v)) (hp : p) : ∃ u, RepV w E v u ∧ (results fn a.tmps).run P w = .ok u w := by
  unfold resV at h
  split at h
  · rename_i r hr
    obtain ⟨u, h1, h2⟩ := res1_ok hT hs h hp
    have e : fn.results = [r].toArray := by rw [← hr]
    refine ⟨u, h1, ?_⟩
    rw [results_eq, e, List.mapM_toArray]
    simp [h2]
  · rename_i hne
    split at h <;> cases h
    rename_i xs hx
    obtain ⟨us, hl, hus, hr⟩ := parts_ok hT hs hx hp
    have e : fn.results = fn.results.toList.toArray := by simp
    have h1 : us.length ≠ 1 := fun h1 => by
      have h2 := parts_len hx
      rw [← hl, h1] at h2
      match hq : fn.results.toList, h2 with
      | [r], _ => exact hne r hq
    refine ⟨.tuple us.toArray, .tup (by simpa using hl.symm) (by simpa using hus), ?_⟩
    rw [results_eq, e, List.mapM_toArray]
    simp [hr, h1]
theorem Sim.cellB {X : Fr} {w0 : World} {N : Nat} {S : St} {E : Env} {a : Act} {w : World} (h : Sim X w0 N S E a w) {t b : Nat} (hb : E.B t = some b) : ∃ o : Obj, w.heap[b]? = some o ∧ o.isMem = true := by
  cases hq : S.blks t with
  | none => rw [h.bn t hq] at hb; cases hb
  | some y =>
    obtain ⟨b', vs, h1, h2, _⟩ := h.blk t y.1 y.2 hq
    rw [h1] at hb; cases hb
    exact blk_cells h2
theorem Sim.cellL {X : Fr} {w0 : World} {N : Nat} {S : St} {E : Env} {a : Act} {w : World} (h : Sim X w0 N S E a w) {k b : Nat} {v : Value} (hv : E.L k = some v) (hb : v.ownB = some b) : ∃ o : Obj, w.heap[b]? = some o ∧ o.isMem = true := by
  cases hq : S.arrs k with
  | none => rw [h.an k hq] at hv; cases hv
  | some y =>
    obtain ⟨v', us, h1, h2, _⟩ := h.arr k y.1 y.2.1 y.2.2 hq
    rw [h1] at hv; cases hv
    exact own_cells h2 hb
theorem Sim.turn {X : Fr} {w0 : World} {N : Nat} {S : St} {E : Env} {a : Act} {w w' : World} (h : Sim X w0 N S E a w) {ds : List Deferred} (hsz : w.heap.size ≤ w'.heap.size) (hchg : Chg X.X w0 w') (hfr : Frk X w0 E.I ds w')
    (hk : ∀ b, E.I b ∨ (∃ o : Obj, w.heap[b]? = some o ∧ o.isMem = true ∧ ((∃ t, E.B t = some b) ∨ ∃ k v, E.L k = some v ∧ v.ownB = some b)) → w'.heap[b]? = w.heap[b]?) : Sim X w0 N S E { a with defers := ds } w' := by
  have hle : Env.Le w w' E E := ⟨fun b hi => hk b (.inl hi), fun _ h => h, fun _ _ h => h, fun _ _ h => h⟩
  refine ⟨hchg, hfr, h.sz, fun t => (h.slot t).mono hle, fun t e cs ht => ?_, h.inj, fun t b ht => ?_, fun k e n rows hr => ?_, fun k v b hv hb' => ?_, h.ai, h.bn, h.an, fun b hi => Nat.lt_of_lt_of_le (h.il b hi) hsz, h.i0, h.i1, h.kp⟩
  · obtain ⟨b, vs, h1, h2, h3, h4⟩ := h.blk t e cs ht
    obtain ⟨o, ho, hc⟩ := blk_cells h2
    exact ⟨b, vs, h1, (hk b (.inr ⟨o, ho, hc, .inl ⟨t, h1⟩⟩)).trans h2, h3.mono hle, h4⟩
  · exact ⟨Nat.lt_of_lt_of_le (h.bl t b ht).1 hsz, (h.bl t b ht).2⟩
  · obtain ⟨v, us, h1, h2, h3, h4⟩ := h.arr k e n rows hr
    exact ⟨v, us, h1, ownA_keep h2 fun c hc => by
      obtain ⟨o, ho, hcc⟩ := own_cells h2 hc
      exact hk c (.inr ⟨o, ho, hcc, .inr ⟨k, v, h1, hc⟩⟩), ⟨h3.1, fun j x u hx hu => (h3.2 j x u hx hu).mono (fun b hi => hk b (.inl hi)) fun _ h => h⟩, h4⟩
  · exact ⟨Nat.lt_of_lt_of_le (h.al k v b hv hb').1 hsz, (h.al k v b hv hb').2⟩
/-- the marks are taken, one by one; then the results -/
theorem leaves_sim {P : Program} {X : Fr} {w0 : World} {N : Nat} {S : St} {E : Env} {fn : Func} {tmps : Array Value} {R : Ending → World → Prop} :
    ∀ (ds : List Deferred) (w : World), Sim X w0 N S E { tmps := tmps, defers := ds } w → (∀ w', Sim X w0 N S E { tmps := tmps, defers := [] } w' → ∃ v, (results fn tmps).run P w' = .ok v w' ∧ R (.returned v) w') → LeavesInM Fence.wide 0 P fn tmps R ds .returning w
  | [], w, hs, hR => hR w hs
  | d :: ds, w, hs, hR => by
    obtain ⟨D, h1, h2, h3, h4⟩ := hs.fr.ms d (by simp)
    subst h1
    have hlt := (Array.getElem?_eq_some_iff.1 h3).1
    have hne : ∀ (k : Nat) (o : Obj), w.heap[k]? = some o → o.isMem = true → k ≠ D := fun k o ho hc e => by
      subst e; rw [h3] at ho; cases ho; cases hc
    refine ⟨by simp, .inl ⟨D, _, rfl, run_takeDeferred h3, leaves_sim ds _ ?_ hR⟩⟩
    refine hs.turn (ds := ds) (by simp) ?_ ?_ fun b hb => ?_
    · exact ⟨hs.chg.os, hs.chg.tape, hs.chg.output, by simpa using hs.chg.size, fun k hk hX => (World.putObj_heap_other (by omega)).trans (hs.chg.block k hk hX)⟩
    · refine ⟨(List.nodup_cons.1 hs.fr.nd).2, fun d' hd' => ?_, fun l hl => ?_, fun hn => by have := hs.fr.nm hn; cases this⟩
      · obtain ⟨D', r1, r2, r3, r4⟩ := hs.fr.ms d' (by simp [hd'])
        have hDD : D' ≠ D := fun e => (List.nodup_cons.1 hs.fr.nd).1 (by subst e; rw [← r1]; exact hd')
        exact ⟨D', r1, r2, (World.putObj_heap_other hDD).trans r3, r4⟩
      · obtain ⟨r, hr⟩ := hs.fr.rd l hl
        refine ⟨r, (World.putObj_heap_other fun e => ?_).trans hr⟩
        subst e; rw [h3] at hr; cases hr
    · refine World.putObj_heap_other ?_
      rcases hb with hb | ⟨o, ho, hc, _⟩
      · exact fun e => h4 (e ▸ hb)
      · exact hne b o ho hc
theorem calls_of_sim {P : Program} {X : Fr} {w0 : World} {N : Nat} {Q : Exit → St → Prop} {f : FuncId} {fn : Func} {c : Code} {args : Array Value} {w : World} {R : Ending → World → Prop} (hf : P.funcs[f]? = some fn) (hb : fn.body = some c) (hX : X.rd = none)
    (h : c.wpIn (rdF X.rd) 0 P (fun e a' w' => ∃ S' E', Q e S' ∧ Sim X w0 N S' E' a' w') { tmps := args ++ Array.replicate (fn.ntmps - args.size) undef, defers := [] } w)
    (hQ : ∀ e S' E' a' w', Q e S' → Sim X w0 N S' E' a' w' → a'.defers = [] → (e = .normal ∨ e = .ret) ∧ ∃ v, (results fn a'.tmps).run P w' = .ok v w' ∧ R (.returned v) w')
    (hN : ∀ e S', Q e S' → e = .normal ∨ e = .ret) : Calls P f args w R := by
  refine (callsIn_wide (n := 0)).1 (callsIn_of_wp_marks hf hb trivial ?_ rfl)
  rw [hX] at h
  refine wpIn_mono h ?_
  rintro e ⟨tmps, ds⟩ w' ⟨S', E', hq, hs⟩
  have key : LeavesInM Fence.wide 0 P fn tmps R ds .returning w' := leaves_sim ds w' hs fun w'' hs' => (hQ e S' E' _ w'' hq hs' rfl).2
  rcases hN e S' hq with rfl | rfl
  · exact key
  · exact key
def Fr.pure (I0 : Nat → Prop) : Fr := { X := fun _ => False, I0 := I0 }
def lkA (t : Nat) (args : List V) : V := args.getD t .un
theorem lkA_zero (v : V) (r : List V) : lkA 0 (v :: r) = v := rfl
theorem lkA_succ (t : Nat) (v : V) (r : List V) : lkA (t + 1) (v :: r) = lkA t r := rfl
theorem call_of (hT : ∀ t y, T t = some y → TyOk P t y) {f : FuncId} {fn : Func} {c : Code} {args : List V} {res : V} (rs : List ResultVar) (hf : P.funcs[f]? = some fn) (hb : fn.body = some c) (hn : (fn.name == "runtime.NumGoroutine") = false) (hargs : args.length ≤ fn.ntmps) (hrs : fn.results.toList = rs)
    (h : ∀ I0 w0, DW P (Fr.pure I0) w0 fn.ntmps c (retQ T rs res) ⟨fun t => lkA t args, fun t => lkB t [], noArr⟩) : CallC P f args res := by
  subst hrs
  refine ⟨⟨fn, hf, by simp [hb], hn⟩, fun w us I hI hl hv => ?_⟩
  have hs : Sim (Fr.pure I) w fn.ntmps ⟨fun t => lkA t args, fun t => lkB t [], noArr⟩ (.pure I) { tmps := us ++ Array.replicate (fn.ntmps - us.size) undef, defers := [] } w := by
    refine ⟨Chg.refl _ _, Frk.none rfl, by simp; omega, fun t => ?_, fun t e cs h => (by cases h), fun t t' b h => (by cases h), fun t b h => (by cases h), fun a e k rows h => (by cases h), fun a v b h => (by cases h), fun a a' v v' b h => (by cases h), fun _ _ => rfl, fun _ _ => rfl, hI, fun _ h => h, fun _ h => .inl h, fun _ h => nomatch h⟩
    simp only [lkA]
    rcases Nat.lt_or_ge t args.length with ht | ht
    · rw [List.getD_eq_getElem?_getD, List.getElem?_eq_getElem ht, Array.getD_eq_getD_getElem?, Array.getElem?_append_left (by omega), Array.getElem?_eq_getElem (by omega)]
      exact hv t _ _ (List.getElem?_eq_getElem ht) (Array.getElem?_eq_getElem (by omega))
    · rw [List.getD_eq_getElem?_getD, List.getElem?_eq_none ht]
      exact .un
  refine calls_of_sim hf hb rfl (h _ w _ _ w hs) (fun e S' E' a' w' hq hs' _ => ?_) fun e S' hq => by cases e <;> first | exact .inl rfl | exact .inr rfl | exact hq.elim
  have key : Ret T fn.results.toList res S' → ∃ v, (results fn a'.tmps).run P w' = .ok v w' ∧ ∃ u I', Ending.returned v = .returned u ∧ RepV w' (.pure I') res u ∧ Below w.heap.size w w' ∧ (∀ b, I b → I' b) ∧ ∀ b, I' b → I b ∨ (w.heap.size ≤ b ∧ b < w'.heap.size) := fun hret => by
    unfold Ret at hret
    split at hret
    · rename_i p v hrv
      obtain ⟨u, h1, h2⟩ := resV_ok hT hs' hrv hret.1
      refine ⟨u, h2, u, E'.I, rfl, vle_ok (E := E') (E' := .pure E'.I) rfl hret.2 h1, hs'.chg.below (fun _ h => h.elim) (Nat.le_refl _), hs'.i0, fun b hb => (hs'.i1 b hb).imp id fun h => ⟨h.resolve_right fun h => h, hs'.il b hb⟩⟩
    · exact hret.elim
  cases e with
  | normal => exact ⟨.inl rfl, key hq⟩
  | ret => exact ⟨.inr rfl, key hq⟩
  | _ => exact hq.elim
/-- what is kept of a value, if just the blocks bn are kept -/
def wk (bn : List Nat) : V → V → Prop
  | _, .un => True
  | .loc t o, .loc t' o' => t = t' ∧ o = o' ∧ t ∈ bn
  | x, y => vle x y
theorem wk_ok {E : Env} {w : World} {bn : List Nat} {E' : Env} (hI : E'.I = E.I) (hB : ∀ t b, t ∈ bn → E.B t = some b → E'.B t = some b) {x y : V} {u : Value} (h : wk bn x y) (hx : RepV w E x u) : RepV w E' y u := by
  unfold wk at h
  split at h
  · exact .un
  · obtain ⟨rfl, rfl, hm⟩ := h
    cases hx with | loc hx => exact .loc (hB _ _ hm hx)
  · exact vle_ok hI h hx
def wkS (bn : List Nat) (f : Nat → V) : List (Nat × V) → Prop
  | [] => True
  | (t, v) :: r => wk bn (f t) v ∧ wkS bn f r
def wkB (f : Nat → Option (TypeId × List C)) : List (Nat × TypeId × List C) → Prop
  | [] => True
  | (t, e, cs) :: r => (match f t with
    | some (e', cs') => e' = e ∧ cle cs' cs
    | none => False) ∧ wkB f r
theorem lookup_mem {α : Type} : ∀ {l : List (Nat × α)} {t : Nat} {v : α}, l.lookup t = some v → (t, v) ∈ l
  | [], t, v, h => by simp at h
  | (k, x) :: r, t, v, h => by
    rw [List.lookup_cons] at h
    split at h
    · rename_i he
      cases h
      have : t = k := by simpa using he
      subst this
      exact List.mem_cons_self ..
    · exact List.mem_cons_of_mem _ (lookup_mem h)
theorem wkS_mem {bn : List Nat} {f : Nat → V} : ∀ {l : List (Nat × V)}, wkS bn f l → ∀ {t v}, (t, v) ∈ l → wk bn (f t) v
  | (k, x) :: r, h, t, v, hm => by
    rcases List.mem_cons.1 hm with e | e
    · cases e; exact h.1
    · exact wkS_mem h.2 e
theorem wkB_mem {f : Nat → Option (TypeId × List C)} : ∀ {l : List (Nat × TypeId × List C)}, wkB f l → ∀ {t e cs}, (t, e, cs) ∈ l → ∃ cs', f t = some (e, cs') ∧ cle cs' cs
  | (k, x, y) :: r, h, t, e, cs, hm => by
    rcases List.mem_cons.1 hm with he | he
    · cases he
      have := h.1
      split at this
      · rename_i e' cs' hf
        obtain ⟨rfl, h2⟩ := this
        exact ⟨cs', hf, h2⟩
      · exact this.elim
    · exact wkB_mem h.2 he
/-- a state is forgotten but for what is listed -/
theorem weak_of {sl : List (Nat × V)} {bl : List (Nat × TypeId × List C)} (h1 : wkS (bl.map (·.1)) S.slots sl) (h2 : wkB S.blks bl) (hX : (X.B0.all fun t => (bl.lookup t).isSome) = true := by rfl) : Weak X S (St.of sl bl) := fun w0 N E a w hs => by
  let E' : Env := ⟨fun t => if (bl.lookup t).isSome then E.B t else none, fun _ => none, E.I⟩
  have hB : ∀ t b, E'.B t = some b → E.B t = some b := fun t b h => by
    have h : (if (bl.lookup t).isSome then E.B t else none) = some b := h
    split at h
    · exact h
    · cases h
  have hin : ∀ t b, t ∈ bl.map (·.1) → E.B t = some b → E'.B t = some b := fun t b hm h => by
    show (if (bl.lookup t).isSome then E.B t else none) = some b
    have : (bl.lookup t).isSome = true := by
      obtain ⟨⟨k, x⟩, hx, rfl⟩ := List.mem_map.1 hm
      cases hl : bl.lookup k with
      | some _ => rfl
      | none =>
        rw [List.lookup_eq_none_iff] at hl
        have := hl _ hx
        simp at this
    rw [if_pos this]; exact h
  refine ⟨E', hs.chg, hs.fr, hs.sz, fun t => ?_, fun t e cs ht => ?_, fun t t' b h h' => hs.inj _ _ _ (hB _ _ h) (hB _ _ h'), fun t b h => hs.bl t b (hB _ _ h), fun a e k rows h => (by cases h), fun a v b h => (by cases h), fun a a' v v' b h => (by cases h), fun t ht => ?_, fun _ _ => rfl, hs.il, hs.i0, hs.i1, fun t hb => ?_⟩
  · show RepV w E' (lkV t sl) _
    rw [lkV_eq]
    cases hl : sl.lookup t with
    | none => exact .un
    | some v => exact wk_ok (E := E) (E' := E') rfl hin (wkS_mem h1 (lookup_mem hl)) (hs.slot t)
  · have ht : bl.lookup t = some (e, cs) := by rw [← lkB_eq]; exact ht
    obtain ⟨cs', hf, hc⟩ := wkB_mem h2 (lookup_mem ht)
    obtain ⟨b, vs, h3, h4, h5, h6⟩ := hs.blk _ _ _ hf
    exact ⟨b, vs, hin _ _ (List.mem_map.2 ⟨_, lookup_mem ht, rfl⟩) h3, h4, cle_ok (E := E) (E' := E') rfl hc h5, h6⟩
  · have ht : bl.lookup t = none := by rw [← lkB_eq]; exact ht
    show (if (bl.lookup t).isSome then E.B t else none) = none
    rw [ht]; rfl
  · show (if (bl.lookup t).isSome then E.B t else none) = some (X.G t)
    rw [if_pos (by simpa using List.all_eq_true.1 hX _ hb)]
    exact hs.kp t hb
end

end Go.Dl
