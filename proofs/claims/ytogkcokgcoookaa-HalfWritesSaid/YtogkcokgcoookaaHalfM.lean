/-
  Layer 10 (half): Same, the document's and the code's.
-/
import Derived.Test.YtogkcokgcoookaaHalfK
namespace Go.Proofs.Ytogkcokgcoookaa
open Go.ChangeShapes Go.WideShapes Go.ChangeAt Go.RowKit Go.Shelf Go.Ed

def hs (vs : List HV) : List Half := vs.map HV.h
theorem hs_len (vs : List HV) : (hs vs).length = vs.length := by simp [hs]
theorem hs_at {vs : List HV} {k : Nat} (hk : k < (hs vs).length) : (hs vs)[k] = (vs[k]'(by simpa [hs] using hk)).h := by simp [hs]

set_option maxRecDepth 100000 in
set_option maxHeartbeats 4000000 in
theorem refSame10_any (w : World) (A A' : Option Addr) (n n' c c' : Nat) (vs vs' : List HV) (hn : (n : Int) ≤ 9223372036854775807) (hI : HalvesAt w w.heap.size A n vs) (hI' : HalvesAt w w.heap.size A' n' vs') (hv : ∀ v ∈ vs, v.h.lines.length ≤ maxLen) :
    Calls Try.prog 23 #[.slice A n c, .slice A' n' c'] w fun e w' => e = .returned (.bool (sameB sameH (hs vs) (hs vs'))) ∧ Below w.heap.size w w' := by
  have hll := hI.len
  have hll' := hI'.len
  obtain ⟨r, hr⟩ : ∃ r, sameB sameH (hs vs) (hs vs') = r := ⟨_, rfl⟩
  rw [hr]
  by_cases hnn : n = n'
  · subst hnn
    have Hr := Lib.hid hr
    clear hr
    go_enter Try.func23, Try.ntmps23
    go_wp2_with fail
    go_loopw [5] (fun i wr => ∃ k : Nat, k ≤ n ∧ i = .int .i64 k ∧ (∀ j (h : j < (hs vs).length) (h' : j < (hs vs').length), j < k → sameH (hs vs)[j] (hs vs')[j] = true) ∧ Below w.heap.size w wr)
      (fun i _ => n - (intOf i).toNat)
    case atStart => exact ⟨0, Nat.zero_le _, rfl, fun j _ _ h => by omega, Below.refl _ _⟩
    case round =>
      obtain ⟨k, hk, rfl, hok, hbr⟩ := hrel
      have Hok := Lib.hid hok
      clear hok
      by_cases hlt : k < n
      · have hlt' : (k : Int) < (n : Int) := by omega
        obtain ⟨b, off, rfl, hbn, hcells⟩ := (hI.below hbr).1.form HV.len (by omega) (by omega)
        obtain ⟨b', off', rfl, hbn', hcells'⟩ := (hI'.below hbr).1.form HV.len (by omega) (by omega)
        have hc1 := Lib.hid (hcells k (by omega))
        have hc2 := Lib.hid (hcells' k (by omega))
        have hat := Lib.hid (((hI.2 _ (List.getElem_mem (show k < vs.length by omega))).below hbr).more hbr.size)
        have hat' := Lib.hid (((hI'.2 _ (List.getElem_mem (show k < vs'.length by omega))).below hbr).more hbr.size)
        have hsh := Lib.hid (hv _ (List.getElem_mem (show k < vs.length by omega)))
        obtain ⟨x, hx⟩ : ∃ s, s = vs[k]'(by omega) := ⟨_, rfl⟩
        obtain ⟨y, hy⟩ : ∃ s, s = vs'[k]'(by omega) := ⟨_, rfl⟩
        rw [← hx] at hc1 hat hsh
        rw [← hy] at hc2 hat'
        replace hx := Lib.hid hx
        replace hy := Lib.hid hy
        have hblr : b < wr.heap.size := by have := hbr.size; omega
        have hblr' : b' < wr.heap.size := by have := hbr.size; omega
        obtain ⟨b1, hb1⟩ : ∃ b, sameH x.h y.h = b := ⟨_, rfl⟩
        replace hb1 := Lib.hid hb1
        clear hcells hcells'
        go_wp2_with fail
        refine wp_region_held_drew (S := fun W => Below wr.heap.size wr W) (by kernel_rfl) ((Below.refl _ _).drew) (fun hS0 => ?_)
        (refine wpAnyH_take (i := 0) (oi := ⟨some 17, _, _, _, _, _⟩) rfl (by kernel_rfl) (by kernel_rfl) (by kernel_rfl) (fun _ _ _ h => h) (.inl ⟨rfl, fun _ _ => rfl⟩) (by assumption) ?_); try simp only [Act.put, List.setIfInBounds_toArray, List.set_cons_zero, List.set_cons_succ]
        (refine wpAnyH_take (i := 1) (oi := ⟨some 18, _, _, _, _, _⟩) rfl (by kernel_rfl) (by kernel_rfl) (by kernel_rfl) (fun _ _ _ h => h) (.inl ⟨rfl, fun _ _ => rfl⟩) (by assumption) ?_); try simp only [Act.put, List.setIfInBounds_toArray, List.set_cons_zero, List.set_cons_succ]
        (refine wpAnyH_take (i := 2) (oi := ⟨some 19, _, _, _, _, _⟩) rfl (by kernel_rfl) (by kernel_rfl) (by kernel_rfl) (fun _ _ _ h => h) (.inl ⟨rfl, fun W hS => by skip; go_simp; try rfl⟩) (by assumption) ?_); try simp only [Act.put, List.setIfInBounds_toArray, List.set_cons_zero, List.set_cons_succ]
        (refine wpAnyH_take (i := 3) (oi := ⟨some 20, _, _, _, _, _⟩) rfl (by kernel_rfl) (by kernel_rfl) (by kernel_rfl) (fun _ _ _ h => h) (.inl ⟨rfl, fun W hS => exec_load_list (vs := x.cells) agg_Half rfl (fun j v hv => (hS.cell (p := ⟨b, off + k * 6 + j, none⟩) hblr).trans (hc1.out j v hv)) rfl rfl⟩) (by assumption) ?_); try simp only [Act.put, List.setIfInBounds_toArray, List.set_cons_zero, List.set_cons_succ]
        (refine wpAnyH_take (i := 4) (oi := ⟨some 21, _, _, _, _, _⟩) rfl (by kernel_rfl) (by kernel_rfl) (by kernel_rfl) (fun _ _ _ h => h) (.inl ⟨rfl, fun _ _ => rfl⟩) (by assumption) ?_); try simp only [Act.put, List.setIfInBounds_toArray, List.set_cons_zero, List.set_cons_succ]
        (refine wpAnyH_take (i := 5) (oi := ⟨some 22, _, _, _, _, _⟩) rfl (by kernel_rfl) (by kernel_rfl) (by kernel_rfl) (fun _ _ _ h => h) (.inl ⟨rfl, fun _ _ => rfl⟩) (by assumption) ?_); try simp only [Act.put, List.setIfInBounds_toArray, List.set_cons_zero, List.set_cons_succ]
        (refine wpAnyH_take (i := 6) (oi := ⟨some 23, _, _, _, _, _⟩) rfl (by kernel_rfl) (by kernel_rfl) (by kernel_rfl) (fun _ _ _ h => h) (.inl ⟨rfl, fun W hS => by skip; go_simp; try rfl⟩) (by assumption) ?_); try simp only [Act.put, List.setIfInBounds_toArray, List.set_cons_zero, List.set_cons_succ]
        (refine wpAnyH_take (i := 7) (oi := ⟨some 24, _, _, _, _, _⟩) rfl (by kernel_rfl) (by kernel_rfl) (by kernel_rfl) (fun _ _ _ h => h) (.inl ⟨rfl, fun W hS => exec_load_list (vs := y.cells) agg_Half rfl (fun j v hv => (hS.cell (p := ⟨b', off' + k * 6 + j, none⟩) hblr').trans (hc2.out j v hv)) rfl rfl⟩) (by assumption) ?_); try simp only [Act.put, List.setIfInBounds_toArray, List.set_cons_zero, List.set_cons_succ]
        refine wpAnyH_ready (rs := [8]) (by kernel_rfl) (by simp) ?_
        refine AllReadyH.cons (o := ⟨some 25, _, _, _, _, _⟩) rfl (fun K hK => ?_) AllReadyH.nil
        go_simp
        refine (sameOne_any _ x y hsh.out ((hat.out.2.below hS0).more hS0.size) ((hat'.out.2.below hS0).more hS0.size)).mono ?_
        rw [hb1.out]
        rintro e w7 ⟨rfl, hb7⟩
        have hk7 : Below wr.heap.size wr w7 := hS0.trans (hb7.mono hS0.size)
        clear hb7
        cases b1
        · go_wp2_with fail
          refine hK.out _ _ hk7 (fun hS2 => ?_)
          clear hK K
          try simp only [Act.put, List.setIfInBounds_toArray, List.set_cons_zero, List.set_cons_succ]
          (refine wpAnyH_take (i := 9) (oi := ⟨some 26, _, _, _, _, _⟩) rfl (by kernel_rfl) (by kernel_rfl) (by kernel_rfl) (fun _ _ _ h => h) (.inl ⟨rfl, fun _ _ => rfl⟩) (by assumption) ?_); try simp only [Act.put, List.setIfInBounds_toArray, List.set_cons_zero, List.set_cons_succ]
          refine wpAnyH_done (by kernel_rfl) ?_ _
          go_wp2_with fail
          go_ret
          refine ⟨congrArg (fun b => Ending.returned (.bool b)) (?_ : false = r), hbr.trans (hk7.mono hbr.size)⟩
          rw [← Hr.out]
          exact (sameB_bad (k := k) (by rw [hs_len]; omega) (by rw [hs_len]; omega) (by rw [hs_at, hs_at, ← hx.out, ← hy.out]; exact hb1.out)).symm
        · go_wp2_with fail
          refine hK.out _ _ hk7 (fun hS2 => ?_)
          clear hK K
          try simp only [Act.put, List.setIfInBounds_toArray, List.set_cons_zero, List.set_cons_succ]
          (refine wpAnyH_take (i := 9) (oi := ⟨some 26, _, _, _, _, _⟩) rfl (by kernel_rfl) (by kernel_rfl) (by kernel_rfl) (fun _ _ _ h => h) (.inl ⟨rfl, fun _ _ => rfl⟩) (by assumption) ?_); try simp only [Act.put, List.setIfInBounds_toArray, List.set_cons_zero, List.set_cons_succ]
          refine wpAnyH_done (by kernel_rfl) ?_ _
          go_wp2_with fail
          go_roundw
          case rel =>
            exact ⟨k + 1, by omega, by go_num, fun j h h' hj => by
              rcases Nat.lt_or_ge j k with hjk | hjk
              · exact Hok.out j h h' hjk
              · obtain rfl : j = k := by omega
                rw [hs_at, hs_at, ← hx.out, ← hy.out]
                exact hb1.out, hbr.trans (hk7.mono hbr.size)⟩
          case measure => simp [intOf]; omega
      · obtain rfl : k = n := by omega
        have he : sameB sameH (hs vs) (hs vs') = true := sameB_good (by rw [hs_len, hs_len]; omega) fun j h h' => Hok.out j h h' (by rw [hs_len] at h; omega)
        have He := Lib.hid he
        clear he
        go_wp2_with fail
        go_ret
        refine ⟨congrArg (fun b => Ending.returned (.bool b)) (?_ : true = r), hbr⟩
        rw [← Hr.out, He.out]
  · have he : false = r := by rw [← hr, sameB_len (by rw [hs_len, hs_len]; omega)]
    subst he
    clear hr
    have hnn' : ((n : Int) != (n' : Int)) = true := by rw [bne_iff_ne]; omega
    go_enter Try.func23, Try.ntmps23
    go_wp2_with fail
    go_ret
    exact ⟨rfl, Below.refl _ _⟩

set_option maxRecDepth 100000 in
set_option maxHeartbeats 4000000 in
theorem equalF_any (w : World) (A A' : Option Addr) (n n' c c' : Nat) (vs vs' : List HV) (hn : (n : Int) ≤ 9223372036854775807) (hI : HalvesAt w w.heap.size A n vs) (hI' : HalvesAt w w.heap.size A' n' vs') (hv : ∀ v ∈ vs, v.h.lines.length ≤ maxLen) :
    Calls Try.prog 51 #[.slice A n c, .slice A' n' c', .func (.func 52) #[] #[]] w fun e w' => e = .returned (.bool (sameB sameH (hs vs) (hs vs'))) ∧ Below w.heap.size w w' := by
  have hll := hI.len
  have hll' := hI'.len
  obtain ⟨r, hr⟩ : ∃ r, sameB sameH (hs vs) (hs vs') = r := ⟨_, rfl⟩
  rw [hr]
  by_cases hnn : n = n'
  · subst hnn
    have Hr := Lib.hid hr
    clear hr
    go_enter Try.func51, Try.ntmps51
    go_wp2_with fail
    go_loopw [17] (fun i wr => ∃ k : Nat, k ≤ n ∧ i = .int .i64 k ∧ (∀ j (h : j < (hs vs).length) (h' : j < (hs vs').length), j < k → sameH (hs vs)[j] (hs vs')[j] = true) ∧ Below w.heap.size w wr)
      (fun i _ => n - (intOf i).toNat)
    case atStart => exact ⟨0, Nat.zero_le _, rfl, fun j _ _ h => by omega, Below.refl _ _⟩
    case round =>
      obtain ⟨k, hk, rfl, hok, hbr⟩ := hrel
      have Hok := Lib.hid hok
      clear hok
      by_cases hlt : k < n
      · have hlt' : (k : Int) < (n : Int) := by omega
        obtain ⟨b, off, rfl, hbn, hcells⟩ := (hI.below hbr).1.form HV.len (by omega) (by omega)
        obtain ⟨b', off', rfl, hbn', hcells'⟩ := (hI'.below hbr).1.form HV.len (by omega) (by omega)
        have hc1 := Lib.hid (hcells k (by omega))
        have hc2 := Lib.hid (hcells' k (by omega))
        have hat := Lib.hid (((hI.2 _ (List.getElem_mem (show k < vs.length by omega))).below hbr).more hbr.size)
        have hat' := Lib.hid (((hI'.2 _ (List.getElem_mem (show k < vs'.length by omega))).below hbr).more hbr.size)
        have hsh := Lib.hid (hv _ (List.getElem_mem (show k < vs.length by omega)))
        obtain ⟨x, hx⟩ : ∃ s, s = vs[k]'(by omega) := ⟨_, rfl⟩
        obtain ⟨y, hy⟩ : ∃ s, s = vs'[k]'(by omega) := ⟨_, rfl⟩
        rw [← hx] at hc1 hat hsh
        rw [← hy] at hc2 hat'
        replace hx := Lib.hid hx
        replace hy := Lib.hid hy
        have hblr : b < wr.heap.size := by have := hbr.size; omega
        have hblr' : b' < wr.heap.size := by have := hbr.size; omega
        obtain ⟨b1, hb1⟩ : ∃ b, sameH x.h y.h = b := ⟨_, rfl⟩
        replace hb1 := Lib.hid hb1
        clear hcells hcells'
        have hx0 := fun j v h => hc1.out j v h
        have hy0 := fun j v h => hc2.out j v h
        obtain ⟨⟨p, bo, li, ls, pe, mi⟩, Al, cl⟩ := x
        obtain ⟨⟨p', bo', li', ls', pe', mi'⟩, Al', cl'⟩ := y
        have q0 := hx0 0 _ rfl
        have q1 := hx0 1 _ rfl
        have q2 := hx0 2 _ rfl
        have q3 := hx0 3 _ rfl
        have q4 := hx0 4 _ rfl
        have q5 := hx0 5 _ rfl
        have u0 := hy0 0 _ rfl
        have u1 := hy0 1 _ rfl
        have u2 := hy0 2 _ rfl
        have u3 := hy0 3 _ rfl
        have u4 := hy0 4 _ rfl
        have u5 := hy0 5 _ rfl
        simp only [Nat.add_zero] at q0 q1 q2 q3 q4 q5 u0 u1 u2 u3 u4 u5
        clear hx0 hy0
        have Hb : Hid (∀ cs cs' : Array Value, Below wr.heap.size wr ((wr.alloc (.cells cs 24)).alloc (.cells cs' 24))) := Lib.hid (fun cs cs' => ((Below.refl _ wr).alloc (Nat.le_refl _) _).alloc (by simp) _)
        go_wp2_with fail
        refine (same1_any _ ⟨⟨p, bo, li, ls, pe, mi⟩, Al, cl⟩ ⟨⟨p', bo', li', ls', pe', mi'⟩, Al', cl'⟩ hsh.out ((hat.out.below (Hb.out _ _)).more (Hb.out _ _).size) ((hat'.out.below (Hb.out _ _)).more (Hb.out _ _).size)).mono ?_
        rw [hb1.out]
        rintro e w7 ⟨rfl, hb7⟩
        have hk7 : Below wr.heap.size wr w7 := (Hb.out _ _).trans (hb7.mono (Hb.out _ _).size)
        clear hb7
        cases b1
        · go_wp2_with fail
          go_ret
          refine ⟨congrArg (fun b => Ending.returned (.bool b)) (?_ : false = r), hbr.trans (hk7.mono hbr.size)⟩
          rw [← Hr.out]
          exact (sameB_bad (k := k) (by rw [hs_len]; omega) (by rw [hs_len]; omega) (by rw [hs_at, hs_at, ← hx.out, ← hy.out]; exact hb1.out)).symm
        · go_wp2_with fail
          go_roundw
          case rel =>
            exact ⟨k + 1, by omega, by go_num, fun j h h' hj => by
              rcases Nat.lt_or_ge j k with hjk | hjk
              · exact Hok.out j h h' hjk
              · obtain rfl : j = k := by omega
                rw [hs_at, hs_at, ← hx.out, ← hy.out]
                exact hb1.out, hbr.trans (hk7.mono hbr.size)⟩
          case measure => simp [intOf]; omega
      · obtain rfl : k = n := by omega
        have he : sameB sameH (hs vs) (hs vs') = true := sameB_good (by rw [hs_len, hs_len]; omega) fun j h h' => Hok.out j h h' (by rw [hs_len] at h; omega)
        have He := Lib.hid he
        clear he
        go_wp2_with fail
        go_ret
        refine ⟨congrArg (fun b => Ending.returned (.bool b)) (?_ : true = r), hbr⟩
        rw [← Hr.out, He.out]
  · have he : false = r := by rw [← hr, sameB_len (by rw [hs_len, hs_len]; omega)]
    subst he
    clear hr
    have hnn' : ((n : Int) != (n' : Int)) = true := by rw [bne_iff_ne]; omega
    go_enter Try.func51, Try.ntmps51
    go_wp2_with fail
    go_ret
    exact ⟨rfl, Below.refl _ _⟩

set_option maxRecDepth 100000 in
theorem same10_any (w : World) (A A' : Option Addr) (n n' c c' : Nat) (vs vs' : List HV) (hn : (n : Int) ≤ 9223372036854775807) (hI : HalvesAt w w.heap.size A n vs) (hI' : HalvesAt w w.heap.size A' n' vs') (hv : ∀ v ∈ vs, v.h.lines.length ≤ maxLen) :
    Calls Try.prog 29 #[.slice A n c, .slice A' n' c'] w fun e w' => e = .returned (.bool (sameB sameH (hs vs) (hs vs'))) ∧ Below w.heap.size w w' := by
  obtain ⟨r, hr⟩ : ∃ r, sameB sameH (hs vs) (hs vs') = r := ⟨_, rfl⟩
  rw [hr]
  replace hr := Lib.hid hr
  go_enter Try.func29, Try.ntmps29
  go_wp2_with fail
  refine (equalF_any _ A A' n n' c c' vs vs' hn hI hI' hv).mono ?_
  rw [hr.out]
  rintro e w1 ⟨rfl, hb⟩
  go_wp2_with fail
  go_ret
  exact ⟨rfl, hb⟩

end Go.Proofs.Ytogkcokgcoookaa
