/-
  Layer 8 (boot): low and read, by their contracts.
-/
import Derived.Test.YtajokeimipllcaaDoorDiskC
import Derived.Laws.BitsAllLaws
namespace Go.Proofs.YtajokeimipllcaaDoor
open Go.ChangeShapes Go.WideShapes Go.ChangeAt Go.RowKit Go.Ed

/-- the lowest n bytes of x, the lowest first -/
def leB (n : Nat) (x : Int) : List Int := (List.range n).map fun i => x / 2 ^ (8 * i) % 256
theorem leB_len (n : Nat) (x : Int) : (leB n x).length = n := by simp [leB]
theorem leB_succ (n : Nat) (x : Int) : leB (n + 1) x = leB n x ++ [x / 2 ^ (8 * n) % 256] := by simp [leB, List.range_succ]

theorem put_le {l : List Value} {off n : Nat} {x : Int} (h : off + n < l.length) :
    (l.take off ++ u8s (leB n x) ++ l.drop (off + n)).set (off + n) (.int .u8 (x / 2 ^ (8 * n) % 256)) = l.take off ++ u8s (leB (n + 1) x) ++ l.drop (off + (n + 1)) := by
  have h1 : (l.take off ++ u8s (leB n x)).length = off + n := by simp [u8s, leB_len]; omega
  rw [List.set_append_right _ _ (by omega), h1, Nat.sub_self, List.drop_eq_getElem_cons h, List.set_cons_zero, leB_succ]
  simp [u8s, Nat.add_assoc]

set_option maxRecDepth 100000 in
theorem low_any (w : World) (g off n c : Nat) (t : TypeId) (l : List Value) (x : Int) (hb : Blk w g t l.toArray) (hn : n ≤ 8) (hl : off + n ≤ l.length) :
    Calls Tryd.prog 25 #[.slice (some ⟨g, off, none⟩) n c, .int .u64 x] w fun e w' => e = .returned (.tuple #[]) ∧ Blk w' g t (l.take off ++ u8s (leB n x) ++ l.drop (off + n)).toArray ∧ Chg (· = g) w w' := by
  go_enter Tryd.func25, Tryd.ntmps25
  go_wp2_with fail
  go_loopw [7] (fun i wr => ∃ k : Nat, k ≤ n ∧ i = .int .i64 k ∧ Blk wr g t (l.take off ++ u8s (leB k x) ++ l.drop (off + k)).toArray ∧ Chg (· = g) w wr) (fun i _ => n - (intOf i).toNat)
  case atStart => exact ⟨0, Nat.zero_le _, rfl, by simpa [u8s, leB] using hb, Chg.refl _ _⟩
  case round =>
    obtain ⟨k, hk, rfl, hB, hC⟩ := hrel
    by_cases hlt : k < n
    · have hlt' : (k : Int) < (n : Int) := by omega
      have hlen : off + k < (l.take off ++ u8s (leB k x) ++ l.drop (off + k)).length := by simp [u8s, leB_len]; omega
      have hcell := hB.cell (off + k)
      rw [List.getElem?_toArray, List.getElem?_eq_getElem hlen] at hcell
      have hfr := hB.frozen (off + k)
      go_wp2_with fail
      go_roundw
      case rel =>
        refine ⟨k + 1, by omega, by go_num, ?_, hC.setCell (fun _ => rfl) _⟩
        have h2 := hB.set_ (off + k) (.int .u8 (x / 2 ^ (8 * k) % 256))
        rw [List.setIfInBounds_toArray, put_le (by omega)] at h2
        exact h2
      case measure => simp [intOf]; omega
    · have hkn : k = n := by omega
      subst hkn
      go_wp2_with fail
      go_returns
      exact ⟨rfl, hB, hC⟩

/-- what read has gathered of the first k bytes -/
def rdN (xs : List Int) : Nat → Int
  | 0 => 0
  | k + 1 => bits .or .u64 (rdN xs k) (IntKind.u64.wrap (IntKind.u64.wrap (xs.getD k 0) * 2 ^ (8 * k)))

set_option maxRecDepth 100000 in
theorem read_any8 (w : World) (ad : Addr) (n c : Nat) (xs : List Int) (hr : Reads w w.heap.size 1 (some ad) n (u8s xs)) (hn : n ≤ 8) :
    Calls Tryd.prog 31 #[.slice (some ad) n c] w fun e w' => e = .returned (.int .i64 (wrap64 (rdN xs n))) ∧ w = w' := by
  obtain ⟨g, o, sp⟩ := ad
  have hxl : xs.length = n := by have := hr.1; simpa [u8s] using this
  go_enter Tryd.func31, Tryd.ntmps31
  go_wp2_with fail
  go_loopw [3, 8] (fun v i wr => ∃ k : Nat, k ≤ n ∧ i = .int .i64 k ∧ wr = w ∧ v = .int .u64 (rdN xs k)) (fun _ i _ => n - (intOf i).toNat)
  case atStart => exact ⟨0, Nat.zero_le _, rfl, rfl, rfl⟩
  case round =>
    obtain ⟨k, hk, rfl, rfl, rfl⟩ := hrel
    by_cases hlt : k < n
    · have hlt' : (k : Int) < (n : Int) := by omega
      obtain ⟨ad, u, e1, _, e2, hcell⟩ := hr.at_ hlt
      obtain rfl := Option.some.inj e1
      have e3 : u = .int .u8 (xs.getD k 0) := by
        rw [show (u8s xs)[k]? = some (.int .u8 (xs[k]'(by omega))) by simp [u8s, List.getElem?_eq_getElem (show k < xs.length by omega)]] at e2
        rw [← Option.some.inj e2]; simp [List.getD, List.getElem?_eq_getElem (show k < xs.length by omega)]
      subst e3
      have hs : rdN xs (k + 1) = bits .or .u64 (rdN xs k) (IntKind.u64.wrap (IntKind.u64.wrap (xs.getD k 0) * 2 ^ (8 * k))) := rfl
      generalize xs.getD k 0 = z at *
      generalize rdN xs k = y at *
      go_wp2_with fail
      go_roundw
      case rel => exact ⟨k + 1, by omega, by go_num, trivial, by rw [hs]⟩
      case measure => simp [intOf]; omega
    · have hkn : k = n := by omega
      subst hkn
      generalize hy : rdN xs k = y
      go_wp2_with fail
      go_ret
      exact ⟨by rw [hy]; rfl, rfl⟩

/-- the table of half bytes -/
def crcTab : List Int := [0, 498536548, 997073096, 651767980, 1994146192, 1802195444, 1303535960, 1342533948, 3988292384, 4027552580, 3604390888, 3412177804, 2607071920, 2262029012, 2685067896, 3183342108]
/-- the table's cells -/
def Tabs (w : World) : Prop := ∀ i, i < 16 → w.cell? ⟨0, i, none⟩ = some (.int .u32 (crcTab.getD i 0))

/-- half a step, a step, the sum so far -/
def tabAt (y : Int) : Int := crcTab.getD (bits .and .u32 y 15).toNat 0
def halfS (y : Int) : Int := bits .xor .u32 (y / 16) (tabAt y)
def sumK (xs : List Int) : Nat → Int
  | 0 => 4294967295
  | k + 1 => halfS (halfS (bits .xor .u32 (sumK xs k) (xs.getD k 0 % 4294967296)))
theorem and15 (y : Int) : 0 ≤ bits .and .u32 y 15 ∧ bits .and .u32 y 15 < 16 ∧ (bits .and .u32 y 15).toNat < 16 := by
  have h : bits .and .u32 y 15 = IntKind.u32.wrap ((BitVec.ofInt 32 y &&& BitVec.ofInt 32 15).toNat : Int) := rfl
  have h2 : (BitVec.ofInt 32 y &&& BitVec.ofInt 32 15).toNat < 16 := by
    rw [BitVec.toNat_and]
    exact Nat.lt_of_le_of_lt Nat.and_le_right (by decide)
  rw [IntKind.wrap_u32'] at h
  omega
theorem xor_nn (a b : Int) : 0 ≤ bits .xor .u32 a b ∧ bits .xor .u32 a b < 4294967296 := by
  have h : bits .xor .u32 a b = IntKind.u32.wrap ((BitVec.ofInt 32 a ^^^ BitVec.ofInt 32 b).toNat : Int) := rfl
  rw [IntKind.wrap_u32'] at h
  omega

set_option maxRecDepth 100000 in
theorem sum_any (w : World) (ht : Tabs w) (ad : Addr) (n c : Nat) (xs : List Int) (hr : Reads w w.heap.size 1 (some ad) n (u8s xs)) (hn : n ≤ 1048576) :
    Calls Tryd.prog 26 #[.slice (some ad) n c] w fun e w' => e = .returned (.int .u32 (bits .xor .u32 IntKind.u32.max (sumK xs n))) ∧ w = w' := by
  obtain ⟨g, o, sp⟩ := ad
  have hxl : xs.length = n := by have := hr.1; simpa [u8s] using this
  go_enter Tryd.func26, Tryd.ntmps26
  go_wp2_with fail
  go_loopw [3, 8] (fun v i wr => ∃ k : Nat, k ≤ n ∧ i = .int .i64 k ∧ wr = w ∧ v = .int .u32 (sumK xs k)) (fun _ i _ => n - (intOf i).toNat)
  case atStart => exact ⟨0, Nat.zero_le _, rfl, rfl, rfl⟩
  case round =>
    obtain ⟨k, hk, rfl, rfl, rfl⟩ := hrel
    by_cases hlt : k < n
    · have hlt' : (k : Int) < (n : Int) := by omega
      obtain ⟨ad, u, e1, _, e2, hcell⟩ := hr.at_ hlt
      obtain rfl := Option.some.inj e1
      have e3 : u = .int .u8 (xs.getD k 0) := by
        rw [show (u8s xs)[k]? = some (.int .u8 (xs[k]'(by omega))) by simp [u8s, List.getElem?_eq_getElem (show k < xs.length by omega)]] at e2
        rw [← Option.some.inj e2]; simp [List.getD, List.getElem?_eq_getElem (show k < xs.length by omega)]
      subst e3
      have hs : sumK xs (k + 1) = halfS (halfS (bits .xor .u32 (sumK xs k) (xs.getD k 0 % 4294967296))) := rfl
      generalize xs.getD k 0 = z at *
      generalize sumK xs k = y at *
      generalize hy1 : bits .xor .u32 y (z % 4294967296) = y1 at hs
      obtain ⟨a1, a2, a3⟩ := and15 y1
      have c1 := ht _ a3
      generalize hy2 : halfS y1 = y2 at hs
      unfold halfS tabAt at hy2
      obtain ⟨b1, b2, b3⟩ := and15 y2
      have c2 := ht _ b3
      generalize hy3 : halfS y2 = y3 at hs
      unfold halfS tabAt at hy3
      generalize crcTab.getD (bits .and .u32 y1 15).toNat 0 = t1 at *
      generalize crcTab.getD (bits .and .u32 y2 15).toNat 0 = t2 at *
      go_wp2_with fail
      go_roundw
      case rel => exact ⟨k + 1, by omega, by go_num, trivial, by rw [hs]⟩
      case measure => simp [intOf]; omega
    · have hkn : k = n := by omega
      subst hkn
      generalize hz : sumK xs k = y
      go_wp2_with fail
      go_ret
      exact ⟨rfl, rfl⟩
end Go.Proofs.YtajokeimipllcaaDoor
