/-
  Layer 5 (wire): the document's Name, node, within, flow.
-/
import Derived.Test.YtogkcokgcoookaaBase
import Derived.Test.YtogkcokgcoookaaNum
import Derived.Test.YtogkcokgcoookaaRows
namespace Go.Proofs.Ytogkcokgcoookaa
open Go.ChangeShapes Go.WideShapes Go.ChangeAt Go.RowKit Go.Shelf Go.Ed

def byteOk (c : UInt8) : Bool := (decide (97 ≤ (c.toNat : Int)) && decide ((c.toNat : Int) ≤ 122)) || (decide (48 ≤ (c.toNat : Int)) && decide ((c.toNat : Int) ≤ 57)) || ((c.toNat : Int) == 95)
/-- a name of a channel -/
def nameOk (s : ByteArray) : Bool := decide (1 ≤ s.size ∧ s.size ≤ 16) && s.data.toList.all byteOk

theorem nameOk_bad {s : ByteArray} {k : Nat} (hk : k < s.size) (h : byteOk s[k] = false) : nameOk s = false := by
  unfold nameOk
  have : s.data.toList.all byteOk = false := by
    rw [List.all_eq_false]
    exact ⟨s[k], by simp [ByteArray.getElem_eq_getElem_data], by simp [h]⟩
  rw [this, Bool.and_false]
theorem nameOk_good {s : ByteArray} (h1 : 1 ≤ s.size) (h2 : s.size ≤ 16) (h : ∀ k (hk : k < s.size), byteOk s[k] = true) : nameOk s = true := by
  unfold nameOk
  rw [Bool.and_eq_true]
  refine ⟨by simp [h1, h2], List.all_eq_true.2 fun x hx => ?_⟩
  obtain ⟨k, hk, rfl⟩ := List.getElem_of_mem hx
  have := h k (by simpa using hk)
  simpa [ByteArray.getElem_eq_getElem_data] using this

set_option maxRecDepth 100000 in
set_option maxHeartbeats 2000000 in
theorem refName_any (w : World) (s : ByteArray) (hs : s.size ≤ maxLen) : Calls Try.prog 9 #[.string s] w fun e w' => e = .returned (.bool (nameOk s)) ∧ w = w' := by
  unfold maxLen at hs
  by_cases h1 : s.size < 1
  · have hr : nameOk s = false := by
      unfold nameOk
      rw [show decide (1 ≤ s.size ∧ s.size ≤ 16) = false by simp; omega]; rfl
    rw [hr]
    clear hr
    have h1' : (s.size : Int) < 1 := by omega
    go_enter Try.func9, Try.ntmps9
    go_wp2
    go_ret
    exact ⟨rfl, rfl⟩
  by_cases h2 : 16 < s.size
  · have hr : nameOk s = false := by
      unfold nameOk
      rw [show decide (1 ≤ s.size ∧ s.size ≤ 16) = false by simp; omega]; rfl
    rw [hr]
    clear hr
    have h2' : 16 < (s.size : Int) := by omega
    go_enter Try.func9, Try.ntmps9
    go_wp2
    go_ret
    exact ⟨rfl, rfl⟩
  have h1' : ¬ (s.size : Int) < 1 := by omega
  have h2' : ¬ 16 < (s.size : Int) := by omega
  go_enter Try.func9, Try.ntmps9
  go_wp2
  go_loop [3] (fun i => ∃ k : Nat, k ≤ s.size ∧ i = .int .i64 k ∧ ∀ j (hj : j < s.size), j < k → byteOk s[j] = true) (fun i => s.size - (intOf i).toNat)
  case atStart => exact ⟨0, Nat.zero_le _, rfl, fun j _ h => by omega⟩
  case round =>
    obtain ⟨k, hk, rfl, hp⟩ := hrel
    by_cases hlt : k < s.size
    · have hlt' : (k : Int) < (s.size : Int) := by omega
      have Hp := Lib.hid hp
      clear hp
      have hc : ∀ x : Int, (x < 48 ∨ (48 ≤ x ∧ x ≤ 57) ∨ (57 < x ∧ x < 95) ∨ x = 95 ∨ x = 96 ∨ (97 ≤ x ∧ x ≤ 122) ∨ 122 < x) := fun _ => by omega
      have hc := hc (s[k].toNat : Int)
      rcases hc with hc | ⟨hc, hd⟩ | ⟨hc, hd⟩ | hc | hc | ⟨hc, hd⟩ | hc
      · have hbv : byteOk s[k] = false := by unfold byteOk; simp; omega
        have d1 : decide ((97 : Int) ≤ (s[k].toNat : Int)) = false := by simp; omega
        have d2 : decide ((s[k].toNat : Int) ≤ 122) = true := by simp; omega
        have d3 : decide ((48 : Int) ≤ (s[k].toNat : Int)) = false := by simp; omega
        have d4 : decide ((s[k].toNat : Int) ≤ 57) = true := by simp; omega
        have hne : ((s[k].toNat : Int) == 95) = false := by simp; omega
        have Hr := Lib.hid (nameOk_bad hlt hbv)
        clear hbv
        go_wp2
        go_ret
        exact ⟨by rw [Hr.out]; rfl, rfl⟩
      · have hbv : byteOk s[k] = true := by unfold byteOk; simp; omega
        have d1 : decide ((97 : Int) ≤ (s[k].toNat : Int)) = false := by simp; omega
        have d2 : decide ((s[k].toNat : Int) ≤ 122) = true := by simp; omega
        have d3 : decide ((48 : Int) ≤ (s[k].toNat : Int)) = true := by simp; omega
        have d4 : decide ((s[k].toNat : Int) ≤ 57) = true := by simp; omega
        have hne : ((s[k].toNat : Int) == 95) = false := by simp; omega
        have Hb := Lib.hid hbv
        clear hbv
        go_wp2
        go_round
        case rel => exact ⟨k + 1, by omega, by go_num, fun j hj hjk => by
          rcases Nat.lt_or_ge j k with h | h
          · exact Hp.out j hj h
          · obtain rfl : j = k := by omega
            exact Hb.out⟩
        case measure => simp [intOf]; omega
      · have hbv : byteOk s[k] = false := by unfold byteOk; simp; omega
        have d1 : decide ((97 : Int) ≤ (s[k].toNat : Int)) = false := by simp; omega
        have d2 : decide ((s[k].toNat : Int) ≤ 122) = true := by simp; omega
        have d3 : decide ((48 : Int) ≤ (s[k].toNat : Int)) = true := by simp; omega
        have d4 : decide ((s[k].toNat : Int) ≤ 57) = false := by simp; omega
        have hne : ((s[k].toNat : Int) == 95) = false := by simp; omega
        have Hr := Lib.hid (nameOk_bad hlt hbv)
        clear hbv
        go_wp2
        go_ret
        exact ⟨by rw [Hr.out]; rfl, rfl⟩
      · have hbv : byteOk s[k] = true := by unfold byteOk; simp; omega
        have d1 : decide ((97 : Int) ≤ (s[k].toNat : Int)) = false := by simp; omega
        have d2 : decide ((s[k].toNat : Int) ≤ 122) = true := by simp; omega
        have d3 : decide ((48 : Int) ≤ (s[k].toNat : Int)) = true := by simp; omega
        have d4 : decide ((s[k].toNat : Int) ≤ 57) = false := by simp; omega
        have hne : ((s[k].toNat : Int) == 95) = true := by simp; omega
        have Hb := Lib.hid hbv
        clear hbv
        go_wp2
        go_round
        case rel => exact ⟨k + 1, by omega, by go_num, fun j hj hjk => by
          rcases Nat.lt_or_ge j k with h | h
          · exact Hp.out j hj h
          · obtain rfl : j = k := by omega
            exact Hb.out⟩
        case measure => simp [intOf]; omega
      · have hbv : byteOk s[k] = false := by unfold byteOk; simp; omega
        have d1 : decide ((97 : Int) ≤ (s[k].toNat : Int)) = false := by simp; omega
        have d2 : decide ((s[k].toNat : Int) ≤ 122) = true := by simp; omega
        have d3 : decide ((48 : Int) ≤ (s[k].toNat : Int)) = true := by simp; omega
        have d4 : decide ((s[k].toNat : Int) ≤ 57) = false := by simp; omega
        have hne : ((s[k].toNat : Int) == 95) = false := by simp; omega
        have Hr := Lib.hid (nameOk_bad hlt hbv)
        clear hbv
        go_wp2
        go_ret
        exact ⟨by rw [Hr.out]; rfl, rfl⟩
      · have hbv : byteOk s[k] = true := by unfold byteOk; simp; omega
        have d1 : decide ((97 : Int) ≤ (s[k].toNat : Int)) = true := by simp; omega
        have d2 : decide ((s[k].toNat : Int) ≤ 122) = true := by simp; omega
        have d3 : decide ((48 : Int) ≤ (s[k].toNat : Int)) = true := by simp; omega
        have d4 : decide ((s[k].toNat : Int) ≤ 57) = false := by simp; omega
        have hne : ((s[k].toNat : Int) == 95) = false := by simp; omega
        have Hb := Lib.hid hbv
        clear hbv
        go_wp2
        go_round
        case rel => exact ⟨k + 1, by omega, by go_num, fun j hj hjk => by
          rcases Nat.lt_or_ge j k with h | h
          · exact Hp.out j hj h
          · obtain rfl : j = k := by omega
            exact Hb.out⟩
        case measure => simp [intOf]; omega
      · have hbv : byteOk s[k] = false := by unfold byteOk; simp; omega
        have d1 : decide ((97 : Int) ≤ (s[k].toNat : Int)) = true := by simp; omega
        have d2 : decide ((s[k].toNat : Int) ≤ 122) = false := by simp; omega
        have d3 : decide ((48 : Int) ≤ (s[k].toNat : Int)) = true := by simp; omega
        have d4 : decide ((s[k].toNat : Int) ≤ 57) = false := by simp; omega
        have hne : ((s[k].toNat : Int) == 95) = false := by simp; omega
        have Hr := Lib.hid (nameOk_bad hlt hbv)
        clear hbv
        go_wp2
        go_ret
        exact ⟨by rw [Hr.out]; rfl, rfl⟩
    · obtain rfl : k = s.size := by omega
      go_wp2
      go_ret
      exact ⟨by rw [nameOk_good (by omega) (by omega) fun j hj => hp j hj hj]; rfl, rfl⟩

end Go.Proofs.Ytogkcokgcoookaa
