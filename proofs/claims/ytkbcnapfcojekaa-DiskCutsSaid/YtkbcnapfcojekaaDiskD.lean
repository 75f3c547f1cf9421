/-
  Layer 7 (disk): the chapter's examples (awake), and the statement DiskNobody's walk.
-/
import Derived.Test.YtkbcnapfcojekaaDiskC
import Derived.Lib.SlBytesConst
namespace Go.Proofs.Ytkbcnapfcojekaa
open Go.ChangeShapes Go.WideShapes Go.ChangeAt Go.RowKit Go.Ed

theorem Try.inf_bytes15 (W : World) : (Instr.makeSlice 27 (.int .i64 15) (.int .i64 15)).run Try.prog W = .ok (.slice (some ⟨W.heap.size, 0, none⟩) 15 15) (W.alloc (.cells (Array.replicate 15 (.int .u8 0)) 5)) := by
  obtain ⟨i0, hi, hz, hs, hb⟩ := Try.inf_byte
  have hmk := run_make_rowN (P := Try.prog) 27 5 i0 _ Try.underlying27 hi hz .i64 .i64 15 15 (Nat.le_refl _) (by rw [hb]; omega) (by omega) W
  rw [hs] at hmk
  have e : madeCells (Value.int .u8 0).cells (15 * 1) = Array.replicate 15 (.int .u8 0) := madeCells_rep _ 1 15 (by omega)
  rw [e] at hmk
  exact hmk

theorem load15 (w : World) (A : Option Addr) (c : Nat) : Calls Try.prog 59 #[.slice A 15 c] w fun e w' => e = .returned (.pointer none) ∧ w = w' := by
  go_enter Try.func59, Try.ntmps59
  go_wp2
  go_ret
  exact ⟨rfl, rfl⟩

/-- "0123456789abcdef" -/
def hex16 : List Int := [48, 49, 50, 51, 52, 53, 54, 55, 56, 57, 97, 98, 99, 100, 101, 102]

theorem Try.conv (W : World) (b len cap : Nat) (xs : List Int) (hlen : xs.length = len) (hcell : ∀ i, i < len → W.cell? ⟨b, 0 + i, none⟩ = some (.int .u8 (xs.getD i 0))) :
    (convert 27 9 (.slice (some ⟨b, 0, none⟩) len cap)).run Try.prog W = .ok (.string (strOfNums xs)) W :=
  run_convert_bytes_arg W 27 5 Try.underlying27 Try.underlying5 b 0 len cap xs hlen hcell 9 Try.underlying9

abbrev hexC : Array Value := #[.int .u8 48, .int .u8 49, .int .u8 50, .int .u8 51, .int .u8 52, .int .u8 53, .int .u8 54, .int .u8 55, .int .u8 56, .int .u8 57, .int .u8 97, .int .u8 98, .int .u8 99, .int .u8 100, .int .u8 101, .int .u8 102]
theorem hex_reads (W : World) : Reads (W.alloc (.cells hexC 5 (16, 17))) (W.heap.size + 1) 1 (some ⟨W.heap.size, 0, none⟩) 16 (u8s hex16) :=
  ⟨rfl, fun _ => ⟨_, rfl, Nat.lt_succ_self _, fun j u hu => by
    rw [ed_add_plain, Nat.zero_add, World.cell?_alloc_mark]
    have e : hexC = (u8s hex16).toArray := rfl
    rw [e]; simpa using hu⟩⟩

set_option maxRecDepth 100000 in
theorem awake07 (w : World) : Calls Try.prog 19 #[] w fun e w' => e = .returned (.bool true) ∧ Below w.heap.size w w' := by
  have hm15 := Try.inf_bytes15
  have kc := fun (w : World) (C : Array Value) (n c : Nat) => Lib.run_convert_bytes_const (P := Try.prog) w 27 5 C n c Try.underlying27 Try.underlying5
  go_enter Try.func19, Try.ntmps19
  go_wp2_with (first
    | (go_at_call 12; (with_reducible refine (new_i _ 4 (by omega) (by omega)).mono ?_); rintro e w1 ⟨g, s, rfl, hg, hs, hd, hb⟩)
    | (go_at_call 12; (with_reducible refine (new_no _ 0 (by omega)).mono ?_); rintro e w' ⟨rfl, rfl⟩)
    | (go_at_call 59; (with_reducible refine (load15 _ _ _).mono ?_); rintro e w' ⟨rfl, rfl⟩)
    | (go_at_call 13; (with_reducible refine (cut_any _ (hd.alloc _) 1 (by omega) (by omega)).mono ?_); rintro e w2 ⟨rfl, hd2, hc2⟩)
    | (go_at_call 15; (with_reducible refine (write_cut_i _ (hd2.alloc _) (by omega) 0 (by omega) (by omega) _ _ hex16 ?hr ?hg (by omega)).mono ?_); (case hr => (have h := hex_reads w2; simpa using h)); (case hg => (have h := hd2.head.lt; simp; omega)); rintro e w3 ⟨rfl, hd3, hc3⟩; have hd3' : Dsk w3 g s false true 0 4 1 (putSect (zeros 4) 0 hex16) := hd3)
    | (go_at_call 15; (with_reducible refine (write_stop_i _ (hd3'.alloc _) 1 (by omega) (by omega) _ _).mono ?_); rintro e w4 ⟨rfl, hd4, hc4⟩)
    | (go_at_call 16; (with_reducible refine (dead_any _ hd4).mono ?_); rintro e w' ⟨rfl, rfl⟩)
    | (go_at_call 17; (with_reducible refine (on_gone _ hd4).mono ?_); rintro e w5 ⟨rfl, hd5, hc5⟩)
    | (go_at_call 20; (with_reducible refine (read_i _ hd5 0 (by omega) (by omega)).mono ?_); rintro e w6 ⟨b, c, rfl, hb1, hb2, hcell, hlen, hb6⟩; have hcv := Try.conv w6 b 16 c hex16 rfl hcell; have hd6 := hd5.below hb6 hd5.head.lt hd5.body.lt; (have e16 : strOfNums hex16 = ⟨#[48, 49, 50, 51, 52, 53, 54, 55, 56, 57, 97, 98, 99, 100, 101, 102]⟩ := rfl); rw [e16] at hcv; clear e16 hcell)
    | (go_at_call 18; (with_reducible refine (writes_any _ hd6).mono ?_); rintro e w' ⟨rfl, rfl⟩)
    | (go_at_call 14; (with_reducible refine (image_i _ hd6).mono ?_); rintro e w7 ⟨b7, c7, rfl, hb71, hb72, _, hb7⟩))
  go_ret
  have hs1 := hb.size
  have hg' : ∀ i, i = g → w.heap.size ≤ i := fun i h => h ▸ hg
  have hgs : ∀ i, (i = g ∨ i = s) → w.heap.size ≤ i := fun i h => by rcases h with h | h <;> subst h <;> assumption
  have h2 : Below w.heap.size w w2 := (hb.alloc hs1 _).trans (hc2.below hg' (by simp; omega))
  have s2 := h2.size
  have h3 : Below w.heap.size w w3 := (h2.alloc s2 _).trans (hc3.below hgs (by simp; omega))
  have s3 := h3.size
  have h4 : Below w.heap.size w w4 := (h3.alloc s3 _).trans (hc4.below hg' (by simp; omega))
  have s4 := h4.size
  have h5 : Below w.heap.size w w5 := h4.trans (hc5.below hg' (by omega))
  have s5 := h5.size
  have h6 : Below w.heap.size w w6 := h5.trans (hb6.mono s5)
  exact ⟨rfl, h6.trans (hb7.mono h6.size)⟩

end Go.Proofs.Ytkbcnapfcojekaa
