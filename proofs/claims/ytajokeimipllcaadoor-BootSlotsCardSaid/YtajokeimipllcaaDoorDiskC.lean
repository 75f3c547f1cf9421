/-
  Layer 7 (disk): Write; and the calls at a disk that was not made.
-/
import Derived.Test.YtajokeimipllcaaDoorDiskB
namespace Go.Proofs.YtajokeimipllcaaDoor
open Go.ChangeShapes Go.WideShapes Go.ChangeAt Go.RowKit Go.Ed

/-- sector k is written over -/
def putSect (bs : List Int) (k : Nat) (ys : List Int) : List Int := bs.take (k * 16) ++ ys ++ bs.drop (k * 16 + 16)
theorem putSect_len {bs ys : List Int} {k n : Nat} (hl : bs.length = n * 16) (hk : k < n) (hy : ys.length = 16) : (putSect bs k ys).length = n * 16 := by
  simp [putSect, hy]; omega

theorem write_dead_nil (w : World) (k : Int) (v : Value) : Calls Tryd.prog 20 #[.pointer none, .int .i64 k, v] w fun e w' => e = .returned (.int .i64 32) ∧ w = w' := by
  go_enter Tryd.func20, Tryd.ntmps20
  go_wp2_with (go_at_call 22; refine (dead_nil _).mono ?_; rintro e w' ⟨rfl, rfl⟩)
  go_ret
  exact ⟨rfl, rfl⟩
theorem write_dead_zero (w : World) (g : Nat) (k : Int) (v : Value) (h : w.cell? ⟨g, 3, none⟩ = some (.slice none 0 0)) :
    Calls Tryd.prog 20 #[.pointer (some ⟨g, 0, none⟩), .int .i64 k, v] w fun e w' => e = .returned (.int .i64 32) ∧ w = w' := by
  go_enter Tryd.func20, Tryd.ntmps20
  go_wp2_with (go_at_call 22; refine (dead_zero _ _ h).mono ?_; rintro e w' ⟨rfl, rfl⟩)
  go_ret
  exact ⟨rfl, rfl⟩
theorem write_gone (w : World) {g s n : Nat} {cut : Bool} {left writes : Int} {bs : List Int} (hd : Dsk w g s true cut left n writes bs) (k : Int) (v : Value) :
    Calls Tryd.prog 20 #[.pointer (some ⟨g, 0, none⟩), .int .i64 k, v] w fun e w' => e = .returned (.int .i64 32) ∧ w = w' := by
  go_enter Tryd.func20, Tryd.ntmps20
  go_wp2_with (go_at_call 22; refine (dead_any _ hd).mono ?_; rintro e w' ⟨rfl, rfl⟩)
  go_ret
  exact ⟨rfl, rfl⟩
theorem read_nil (w : World) (k : Int) : Calls Tryd.prog 30 #[.pointer none, .int .i64 k] w fun e w' => e = .returned (.tuple #[.slice none 0 0, .int .i64 32]) ∧ w = w' := by
  go_enter Tryd.func30, Tryd.ntmps30
  go_wp2_with (go_at_call 22; refine (dead_nil _).mono ?_; rintro e w' ⟨rfl, rfl⟩)
  go_ret2
  exact ⟨rfl, rfl⟩
theorem read_zero (w : World) (g : Nat) (k : Int) (h : w.cell? ⟨g, 3, none⟩ = some (.slice none 0 0)) :
    Calls Tryd.prog 30 #[.pointer (some ⟨g, 0, none⟩), .int .i64 k] w fun e w' => e = .returned (.tuple #[.slice none 0 0, .int .i64 32]) ∧ w = w' := by
  go_enter Tryd.func30, Tryd.ntmps30
  go_wp2_with (go_at_call 22; refine (dead_zero _ _ h).mono ?_; rintro e w' ⟨rfl, rfl⟩)
  go_ret2
  exact ⟨rfl, rfl⟩

/-- the write that finds the power gone -/
theorem write_stop (w : World) {g s n : Nat} {writes : Int} {bs : List Int} (hd : Dsk w g s false true 0 n writes bs) (k : Nat) (hk : k < n) (A : Option Addr) (c : Nat) :
    Calls Tryd.prog 20 #[.pointer (some ⟨g, 0, none⟩), .int .i64 k, .slice A 16 c] w fun e w' => e = .returned (.int .i64 32) ∧ Dsk w' g s true false 0 n writes bs ∧ Chg (· = g) w w' := by
  go_enter Tryd.func20, Tryd.ntmps20
  go_wp2_with (first | (go_at_call 22; refine (dead_any _ hd).mono ?_; rintro e w' ⟨rfl, rfl⟩) | (go_at_call 27; refine (has_yes _ hd k (by omega) (by omega)).mono ?_; rintro e w' ⟨rfl, rfl⟩) | (go_at_call 28; refine (power_stop _ hd).mono ?_; rintro e w1 ⟨rfl, hd1, hc1⟩))
  go_ret
  exact ⟨rfl, hd1, hc1⟩

set_option maxRecDepth 100000 in
/-- what lies behind the power's word: the sector is stored, the count goes on. One theorem for both ways. -/
theorem write_ok (w : World) {g s n : Nat} {cut : Bool} {left left' writes : Int} {bs : List Int} (hd : Dsk w g s false cut left n writes bs) (k : Nat) (hk : k < n) (ad : Addr) (c : Nat) (ys : List Int)
    (hr : Reads w w.heap.size 1 (some ad) 16 (u8s ys)) (hg : ad.block ≠ g) (hw : writes < 4611686018427387904)
    (hp : Calls Tryd.prog 28 #[.pointer (some ⟨g, 0, none⟩)] w fun e w' => e = .returned (.bool true) ∧ Dsk w' g s false cut left' n writes bs ∧ Chg (· = g) w w') :
    Calls Tryd.prog 20 #[.pointer (some ⟨g, 0, none⟩), .int .i64 k, .slice (some ad) 16 c] w fun e w' => e = .returned (.int .i64 0) ∧ Dsk w' g s false cut left' n (writes + 1) (putSect bs k ys) ∧ Chg (fun i => i = g ∨ i = s) w w' := by
  have Hp := Lib.hid hp; clear hp
  obtain ⟨hw1, _⟩ := hd.writes0
  have hk1 : (k : Int) < (n : Int) := by omega
  go_enter Tryd.func20, Tryd.ntmps20
  go_wp2_with (first | (go_at_call 22; refine (dead_any _ hd).mono ?_; rintro e w' ⟨rfl, rfl⟩) | (go_at_call 27; refine (has_yes _ hd k (by omega) (by omega)).mono ?_; rintro e w' ⟨rfl, rfl⟩) | (go_at_call 28; refine Hp.out.mono ?_; rintro e w1 ⟨rfl, hd1, hc1⟩))
  obtain ⟨ab, ao, asp⟩ := ad
  have hr1 : ∀ j, (hj : j < 16) → w1.cell? ((⟨ab, ao, asp⟩ : Addr).add j) = some ((u8s ys)[j]'(by have := hr.1; omega)) := by
    intro j hj
    obtain ⟨ad', e, hb, hc⟩ := hr.2 (by omega)
    injection e with e
    subst e
    rw [World.cell?_of_block (hc1.block _ (by rw [block_of_add]; exact hb) (by rw [block_of_add]; exact hg))]
    exact hc j _ (List.getElem?_eq_getElem _)
  have h3 := hd1.c3
  have harr : ∀ W, (Instr.arrayAt 64 (.slice (some ⟨ab, ao, asp⟩) 16 c)).run Tryd.prog W = .ok (.pointer (some ⟨ab, ao, asp⟩)) W := fun W => by simp [Instr.arrayAt, run_underlying Tryd.underlying64]
  have hr2 : ∀ j v, (u8s ys)[j]? = some v → ({ w1 with drawn := w1.drawn + 1 } : World).cell? ((⟨ab, ao, asp⟩ : Addr).add j) = some v := by
    intro j v hj
    have hl := hr.1
    obtain ⟨hjl, e⟩ := List.getElem?_eq_some_iff.1 hj
    exact (hr1 j (by omega)).trans (by rw [e])
  clear hr1
  have hr2' := Lib.hid hr2; clear hr2
  go_still_tail 9, (by kernel_rfl)
  refine still_load_list Tryd.agg_sector hr2'.out hr.1 rfl ?_
  repeat still_step
  refine wpStill_nil ?_
  change wpList _ _ _ _ _ w1.drew
  have hbs : ((bs.map (Value.int .u8)).toArray).size = n * 16 := by simp [hd1.len]
  have hyl : (u8s ys).length = 16 := hr.1
  have hdd : Dsk w1.drew g s false cut left' n writes bs := { hd1 with head := hd1.head, body := hd1.body }
  have hpl : (putSect bs k ys).length = n * 16 := putSect_len hd1.len hk (by simpa [u8s] using hyl)
  go_wp2_with ((with_reducible refine go_store_as (off := k * 16) (vs := (u8s ys).toArray) ((putSect bs k ys).map (Value.int .u8)).toArray Tryd.agg_sector hdd.body ?b1 ?b2 ?b3 ?b4 ?b5 ?b6 ?_); (case b1 => rfl); (case b2 => rfl); (case b3 => simpa using hyl); (case b4 => (rw [hbs]; omega)); (case b5 => exact u8s_one _); (case b6 => simp [putSect, u8s, List.map_take, List.map_drop]); intro w2 hb2 hc2; have hd2 : Dsk w2 g s false cut left' n writes (putSect bs k ys) := { hdd with head := hdd.head.chg hc2 hdd.ne, body := hb2, len := hpl }; have h24 := hd2.c4; have f24 := hd2.head.frozen 4)
  go_ret
  exact ⟨rfl, { hd2 with head := hd2.head.set_ 4 _, body := hd2.body.far (Ne.symm hd2.ne) _, writes0 := by have := hd2.writes0; omega },
    (((hc1.mono (fun i (h : i = g) => Or.inl h)).drew.trans' (hc2.mono (fun i (h : i = s) => Or.inr h)) (fun _ _ h => h))).setCell (fun _ => by exact Or.inl rfl) _⟩

/-- Write with a cut ahead, and without one. -/
theorem write_cut (w : World) {g s n : Nat} {left writes : Int} {bs : List Int} (hd : Dsk w g s false true left n writes bs) (hl : 0 < left) (k : Nat) (hk : k < n) (ad : Addr) (c : Nat) (ys : List Int)
    (hr : Reads w w.heap.size 1 (some ad) 16 (u8s ys)) (hg : ad.block ≠ g) (hw : writes < 4611686018427387904) :
    Calls Tryd.prog 20 #[.pointer (some ⟨g, 0, none⟩), .int .i64 k, .slice (some ad) 16 c] w fun e w' => e = .returned (.int .i64 0) ∧ Dsk w' g s false true (left - 1) n (writes + 1) (putSect bs k ys) ∧ Chg (fun i => i = g ∨ i = s) w w' :=
  write_ok w hd k hk ad c ys hr hg hw (power_cut w hd hl)
theorem write_free (w : World) {g s n : Nat} {left writes : Int} {bs : List Int} (hd : Dsk w g s false false left n writes bs) (k : Nat) (hk : k < n) (ad : Addr) (c : Nat) (ys : List Int)
    (hr : Reads w w.heap.size 1 (some ad) 16 (u8s ys)) (hg : ad.block ≠ g) (hw : writes < 4611686018427387904) :
    Calls Tryd.prog 20 #[.pointer (some ⟨g, 0, none⟩), .int .i64 k, .slice (some ad) 16 c] w fun e w' => e = .returned (.int .i64 0) ∧ Dsk w' g s false false left n (writes + 1) (putSect bs k ys) ∧ Chg (fun i => i = g ∨ i = s) w w' :=
  write_ok w hd k hk ad c ys hr hg hw ((power_free w hd).mono fun _ _ ⟨he, hw⟩ => ⟨he, hw ▸ hd, hw ▸ Chg.refl _ _⟩)

/-! ### the same with whatever integer stands at the call -/
theorem own_bytes {w : World} {base n b c : Nat} {v : Value} {bs : List Int} (h : w.ownsRow base 5 1 v n (u8s bs)) (hv : v = .slice (some ⟨b, 0, none⟩) n c) :
    ∀ i, i < n → w.cell? ⟨b, 0 + i, none⟩ = some (.int .u8 (bs.getD i 0)) := by
  intro i hi
  subst hv
  have hl : bs.length = n := by simpa [u8s] using h.1
  have := h.cellAt i (by omega)
  rw [Nat.zero_add, this]
  simp [u8s, List.getD, List.getElem?_eq_getElem (show i < bs.length by omega)]
theorem new_i (w : World) (k : Int) (h0 : 1 ≤ k) (h1 : k ≤ 64) :
    Calls Tryd.prog 10 #[.int .i64 k] w fun e w' => ∃ g s, e = .returned (.pointer (some ⟨g, 0, none⟩)) ∧ w.heap.size ≤ g ∧ w.heap.size ≤ s ∧ Dsk w' g s false false 0 k.toNat 0 (zeros k.toNat) ∧ Below w.heap.size w w' := by
  obtain ⟨n, rfl⟩ := Int.eq_ofNat_of_zero_le (show 0 ≤ k by omega)
  rw [Int.toNat_natCast]
  exact new_any w n (by omega) (by omega)
theorem read_i (w : World) {g s n : Nat} {cut : Bool} {left writes : Int} {bs : List Int} (hd : Dsk w g s false cut left n writes bs) (k : Int) (hk0 : 0 ≤ k) (hk : k < n) :
    Calls Tryd.prog 30 #[.pointer (some ⟨g, 0, none⟩), .int .i64 k] w fun e w' => ∃ b c, e = .returned (.tuple #[.slice (some ⟨b, 0, none⟩) 16 c, .int .i64 0]) ∧ w.heap.size ≤ b ∧ b < w'.heap.size ∧
      (∀ i, i < 16 → w'.cell? ⟨b, 0 + i, none⟩ = some (.int .u8 ((sect bs k.toNat).getD i 0))) ∧ (sect bs k.toNat).length = 16 ∧ Below w.heap.size w w' := by
  obtain ⟨m, rfl⟩ := Int.eq_ofNat_of_zero_le hk0
  rw [Int.toNat_natCast]
  refine (read_any w hd m (by omega)).mono ?_
  rintro e w1 ⟨v, rfl, hv, hb⟩
  obtain ⟨b, c, rfl, hb0, hb1⟩ := World.ownsRow.form hv (by omega)
  exact ⟨b, c, rfl, hb0, hb1, own_bytes hv rfl, by simpa [u8s] using hv.1, hb⟩
theorem write_stop_i (w : World) {g s n : Nat} {writes : Int} {bs : List Int} (hd : Dsk w g s false true 0 n writes bs) (k : Int) (hk0 : 0 ≤ k) (hk : k < n) (A : Option Addr) (c : Nat) :
    Calls Tryd.prog 20 #[.pointer (some ⟨g, 0, none⟩), .int .i64 k, .slice A 16 c] w fun e w' => e = .returned (.int .i64 32) ∧ Dsk w' g s true false 0 n writes bs ∧ Chg (· = g) w w' := by
  obtain ⟨m, rfl⟩ := Int.eq_ofNat_of_zero_le hk0
  exact write_stop w hd m (by omega) A c
theorem write_cut_i (w : World) {g s n : Nat} {left writes : Int} {bs : List Int} (hd : Dsk w g s false true left n writes bs) (hl : 0 < left) (k : Int) (hk0 : 0 ≤ k) (hk : k < n) (ad : Addr) (c : Nat) (ys : List Int)
    (hr : Reads w w.heap.size 1 (some ad) 16 (u8s ys)) (hg : ad.block ≠ g) (hw : writes < 4611686018427387904) :
    Calls Tryd.prog 20 #[.pointer (some ⟨g, 0, none⟩), .int .i64 k, .slice (some ad) 16 c] w fun e w' => e = .returned (.int .i64 0) ∧ Dsk w' g s false true (left - 1) n (writes + 1) (putSect bs k.toNat ys) ∧ Chg (fun i => i = g ∨ i = s) w w' := by
  obtain ⟨m, rfl⟩ := Int.eq_ofNat_of_zero_le hk0
  rw [Int.toNat_natCast]
  exact write_cut w hd hl m (by omega) ad c ys hr hg hw
theorem write_free_i (w : World) {g s n : Nat} {left writes : Int} {bs : List Int} (hd : Dsk w g s false false left n writes bs) (k : Int) (hk0 : 0 ≤ k) (hk : k < n) (ad : Addr) (c : Nat) (ys : List Int)
    (hr : Reads w w.heap.size 1 (some ad) 16 (u8s ys)) (hg : ad.block ≠ g) (hw : writes < 4611686018427387904) :
    Calls Tryd.prog 20 #[.pointer (some ⟨g, 0, none⟩), .int .i64 k, .slice (some ad) 16 c] w fun e w' => e = .returned (.int .i64 0) ∧ Dsk w' g s false false left n (writes + 1) (putSect bs k.toNat ys) ∧ Chg (fun i => i = g ∨ i = s) w w' := by
  obtain ⟨m, rfl⟩ := Int.eq_ofNat_of_zero_le hk0
  rw [Int.toNat_natCast]
  exact write_free w hd m (by omega) ad c ys hr hg hw

end Go.Proofs.YtajokeimipllcaaDoor
