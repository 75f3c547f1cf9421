/-
  The table of this program's types, for Dl.
-/
import Derived.Test.YtogkcokgcoookaaDl
import Derived.Test.YtogkcokgcoookaaProg
namespace Go.Proofs.Ytogkcokgcoookaa
open Go.Dl
/-- what the types are -/
def TT : List (Nat × Ty) := [(2, { k := 1, agg := false, pls := [], elem := none, bas := some (.int .i64), zs := [.int .i64 0] }),
  (3, { k := 1, agg := false, pls := [], elem := none, bas := some (.int .i64), zs := [.int .i64 0] }),
  (4, { k := 1, agg := false, pls := [], elem := none, bas := some .bool, zs := [.bool false] }),
  (5, { k := 1, agg := false, pls := [], elem := none, bas := some (.int .u8), zs := [.int .u8 0] }),
  (6, { k := 1, agg := false, pls := [], elem := none, bas := some (.int .u8), zs := [.int .u8 0] }),
  (7, { k := 4, agg := true, pls := [(0, 1), (1, 1), (2, 1), (3, 1)], elem := none, bas := none, zs := [.int .i64 0, .int .i64 0, .bool false, .int .u8 0] }),
  (8, { k := 4, agg := true, pls := [(0, 1), (1, 1), (2, 1), (3, 1)], elem := none, bas := none, zs := [.int .i64 0, .int .i64 0, .bool false, .int .u8 0] }),
  (9, { k := 1, agg := false, pls := [], elem := none, bas := some .str, zs := [.string ⟨#[]⟩] }),
  (10, { k := 1, agg := false, pls := [], elem := none, bas := some .str, zs := [.string ⟨#[]⟩] }),
  (11, { k := 1, agg := false, pls := [], elem := none, bas := some .str, zs := [.string ⟨#[]⟩] }),
  (12, { k := 1, agg := false, pls := [], elem := none, bas := some (.int .u64), zs := [.int .u64 0] }),
  (13, { k := 2, agg := true, pls := [(0, 1), (1, 1)], elem := none, bas := none, zs := [.string ⟨#[]⟩, .int .u64 0] }),
  (14, { k := 2, agg := true, pls := [(0, 1), (1, 1)], elem := none, bas := none, zs := [.string ⟨#[]⟩, .int .u64 0] }),
  (15, { k := 1, agg := false, pls := [], elem := none, bas := none, zs := [.pointer none] }),
  (16, { k := 1, agg := false, pls := [], elem := none, bas := none, zs := [.pointer none] }),
  (17, { k := 1, agg := false, pls := [], elem := none, bas := none, zs := [.pointer none] }),
  (18, { k := 1, agg := true, pls := [(0, 1)], elem := none, bas := none, zs := [.pointer none] }),
  (19, { k := 1, agg := true, pls := [(0, 1)], elem := none, bas := none, zs := [.pointer none] }),
  (21, { k := 1, agg := false, pls := [], elem := none, bas := some (.int .i32), zs := [.int .i32 0] }),
  (22, { k := 1, agg := false, pls := [], elem := some (44, 4, 40), bas := none, zs := [.slice none 0 0] }),
  (23, { k := 6, agg := true, pls := [(0, 1), (1, 1), (2, 1), (3, 1), (4, 1), (5, 1)], elem := none, bas := none, zs := [.int .i64 0, .int .i64 0, .int .i64 0, .slice none 0 0, .bool false, .int .i64 0] }),
  (24, { k := 6, agg := true, pls := [(0, 1), (1, 1), (2, 1), (3, 1), (4, 1), (5, 1)], elem := none, bas := none, zs := [.int .i64 0, .int .i64 0, .int .i64 0, .slice none 0 0, .bool false, .int .i64 0] }),
  (25, { k := 1, agg := false, pls := [], elem := some (29, 3, 24), bas := none, zs := [.slice none 0 0] }),
  (28, { k := 3, agg := true, pls := [(0, 1), (1, 1), (2, 1)], elem := none, bas := none, zs := [.int .i64 0, .int .i64 0, .int .i64 0] }),
  (29, { k := 3, agg := true, pls := [(0, 1), (1, 1), (2, 1)], elem := none, bas := none, zs := [.int .i64 0, .int .i64 0, .int .i64 0] }),
  (39, { k := 1, agg := false, pls := [], elem := some (24, 6, 64), bas := none, zs := [.slice none 0 0] }),
  (43, { k := 4, agg := true, pls := [(0, 1), (1, 3)], elem := none, bas := none, zs := [.string ⟨#[]⟩, .int .i64 0, .int .i64 0, .int .i64 0] }),
  (44, { k := 4, agg := true, pls := [(0, 1), (1, 3)], elem := none, bas := none, zs := [.string ⟨#[]⟩, .int .i64 0, .int .i64 0, .int .i64 0] }),
  (56, { k := 1, agg := false, pls := [], elem := some (3, 1, 8), bas := none, zs := [.slice none 0 0] }),
  (81, { k := 1, agg := false, pls := [], elem := none, bas := some (.int .u64), zs := [.int .u64 0] }),
  (86, { k := 4, agg := true, pls := [(0, 1), (1, 1), (2, 1), (3, 1)], elem := none, bas := none, zs := [.pointer none, .pointer none, .pointer none, .string ⟨#[]⟩] }),
  (87, { k := 4, agg := true, pls := [(0, 1), (1, 1), (2, 1), (3, 1)], elem := none, bas := none, zs := [.pointer none, .pointer none, .pointer none, .string ⟨#[]⟩] }),
  (92, { k := 1, agg := false, pls := [], elem := none, bas := some (.int .u32), zs := [.int .u32 0] }),
  (93, { k := 1, agg := false, pls := [], elem := none, bas := some (.int .u8), zs := [.int .u8 0] }),
  (94, { k := 1, agg := false, pls := [], elem := none, bas := some (.int .u8), zs := [.int .u8 0] }),
  (96, { k := 1, agg := false, pls := [], elem := none, bas := none, zs := [.pointer none] }),
  (97, { k := 1, agg := false, pls := [], elem := none, bas := some (.int .i32), zs := [.int .i32 0] }),
  (98, { k := 1, agg := false, pls := [], elem := none, bas := some (.int .i32), zs := [.int .i32 0] })]
theorem TT_ok : tabOk Try.prog TT = true := by kernel_rfl
theorem hT : ∀ t y, tab TT t = some y → TyOk Try.prog t y := fun _ _ h => tab_ok TT_ok h
theorem tt2 : tab TT 2 = some { k := 1, agg := false, pls := [], elem := none, bas := some (.int .i64), zs := [.int .i64 0] } := by kernel_rfl
theorem tt3 : tab TT 3 = some { k := 1, agg := false, pls := [], elem := none, bas := some (.int .i64), zs := [.int .i64 0] } := by kernel_rfl
theorem tt4 : tab TT 4 = some { k := 1, agg := false, pls := [], elem := none, bas := some .bool, zs := [.bool false] } := by kernel_rfl
theorem tt5 : tab TT 5 = some { k := 1, agg := false, pls := [], elem := none, bas := some (.int .u8), zs := [.int .u8 0] } := by kernel_rfl
theorem tt6 : tab TT 6 = some { k := 1, agg := false, pls := [], elem := none, bas := some (.int .u8), zs := [.int .u8 0] } := by kernel_rfl
theorem tt7 : tab TT 7 = some { k := 4, agg := true, pls := [(0, 1), (1, 1), (2, 1), (3, 1)], elem := none, bas := none, zs := [.int .i64 0, .int .i64 0, .bool false, .int .u8 0] } := by kernel_rfl
theorem tt8 : tab TT 8 = some { k := 4, agg := true, pls := [(0, 1), (1, 1), (2, 1), (3, 1)], elem := none, bas := none, zs := [.int .i64 0, .int .i64 0, .bool false, .int .u8 0] } := by kernel_rfl
theorem tt9 : tab TT 9 = some { k := 1, agg := false, pls := [], elem := none, bas := some .str, zs := [.string ⟨#[]⟩] } := by kernel_rfl
theorem tt10 : tab TT 10 = some { k := 1, agg := false, pls := [], elem := none, bas := some .str, zs := [.string ⟨#[]⟩] } := by kernel_rfl
theorem tt11 : tab TT 11 = some { k := 1, agg := false, pls := [], elem := none, bas := some .str, zs := [.string ⟨#[]⟩] } := by kernel_rfl
theorem tt12 : tab TT 12 = some { k := 1, agg := false, pls := [], elem := none, bas := some (.int .u64), zs := [.int .u64 0] } := by kernel_rfl
theorem tt13 : tab TT 13 = some { k := 2, agg := true, pls := [(0, 1), (1, 1)], elem := none, bas := none, zs := [.string ⟨#[]⟩, .int .u64 0] } := by kernel_rfl
theorem tt14 : tab TT 14 = some { k := 2, agg := true, pls := [(0, 1), (1, 1)], elem := none, bas := none, zs := [.string ⟨#[]⟩, .int .u64 0] } := by kernel_rfl
theorem tt15 : tab TT 15 = some { k := 1, agg := false, pls := [], elem := none, bas := none, zs := [.pointer none] } := by kernel_rfl
theorem tt16 : tab TT 16 = some { k := 1, agg := false, pls := [], elem := none, bas := none, zs := [.pointer none] } := by kernel_rfl
theorem tt17 : tab TT 17 = some { k := 1, agg := false, pls := [], elem := none, bas := none, zs := [.pointer none] } := by kernel_rfl
theorem tt18 : tab TT 18 = some { k := 1, agg := true, pls := [(0, 1)], elem := none, bas := none, zs := [.pointer none] } := by kernel_rfl
theorem tt19 : tab TT 19 = some { k := 1, agg := true, pls := [(0, 1)], elem := none, bas := none, zs := [.pointer none] } := by kernel_rfl
theorem tt21 : tab TT 21 = some { k := 1, agg := false, pls := [], elem := none, bas := some (.int .i32), zs := [.int .i32 0] } := by kernel_rfl
theorem tt22 : tab TT 22 = some { k := 1, agg := false, pls := [], elem := some (44, 4, 40), bas := none, zs := [.slice none 0 0] } := by kernel_rfl
theorem tt23 : tab TT 23 = some { k := 6, agg := true, pls := [(0, 1), (1, 1), (2, 1), (3, 1), (4, 1), (5, 1)], elem := none, bas := none, zs := [.int .i64 0, .int .i64 0, .int .i64 0, .slice none 0 0, .bool false, .int .i64 0] } := by kernel_rfl
theorem tt24 : tab TT 24 = some { k := 6, agg := true, pls := [(0, 1), (1, 1), (2, 1), (3, 1), (4, 1), (5, 1)], elem := none, bas := none, zs := [.int .i64 0, .int .i64 0, .int .i64 0, .slice none 0 0, .bool false, .int .i64 0] } := by kernel_rfl
theorem tt25 : tab TT 25 = some { k := 1, agg := false, pls := [], elem := some (29, 3, 24), bas := none, zs := [.slice none 0 0] } := by kernel_rfl
theorem tt28 : tab TT 28 = some { k := 3, agg := true, pls := [(0, 1), (1, 1), (2, 1)], elem := none, bas := none, zs := [.int .i64 0, .int .i64 0, .int .i64 0] } := by kernel_rfl
theorem tt29 : tab TT 29 = some { k := 3, agg := true, pls := [(0, 1), (1, 1), (2, 1)], elem := none, bas := none, zs := [.int .i64 0, .int .i64 0, .int .i64 0] } := by kernel_rfl
theorem tt39 : tab TT 39 = some { k := 1, agg := false, pls := [], elem := some (24, 6, 64), bas := none, zs := [.slice none 0 0] } := by kernel_rfl
theorem tt43 : tab TT 43 = some { k := 4, agg := true, pls := [(0, 1), (1, 3)], elem := none, bas := none, zs := [.string ⟨#[]⟩, .int .i64 0, .int .i64 0, .int .i64 0] } := by kernel_rfl
theorem tt44 : tab TT 44 = some { k := 4, agg := true, pls := [(0, 1), (1, 3)], elem := none, bas := none, zs := [.string ⟨#[]⟩, .int .i64 0, .int .i64 0, .int .i64 0] } := by kernel_rfl
theorem tt56 : tab TT 56 = some { k := 1, agg := false, pls := [], elem := some (3, 1, 8), bas := none, zs := [.slice none 0 0] } := by kernel_rfl
theorem tt81 : tab TT 81 = some { k := 1, agg := false, pls := [], elem := none, bas := some (.int .u64), zs := [.int .u64 0] } := by kernel_rfl
theorem tt86 : tab TT 86 = some { k := 4, agg := true, pls := [(0, 1), (1, 1), (2, 1), (3, 1)], elem := none, bas := none, zs := [.pointer none, .pointer none, .pointer none, .string ⟨#[]⟩] } := by kernel_rfl
theorem tt87 : tab TT 87 = some { k := 4, agg := true, pls := [(0, 1), (1, 1), (2, 1), (3, 1)], elem := none, bas := none, zs := [.pointer none, .pointer none, .pointer none, .string ⟨#[]⟩] } := by kernel_rfl
theorem tt92 : tab TT 92 = some { k := 1, agg := false, pls := [], elem := none, bas := some (.int .u32), zs := [.int .u32 0] } := by kernel_rfl
theorem tt93 : tab TT 93 = some { k := 1, agg := false, pls := [], elem := none, bas := some (.int .u8), zs := [.int .u8 0] } := by kernel_rfl
theorem tt94 : tab TT 94 = some { k := 1, agg := false, pls := [], elem := none, bas := some (.int .u8), zs := [.int .u8 0] } := by kernel_rfl
theorem tt96 : tab TT 96 = some { k := 1, agg := false, pls := [], elem := none, bas := none, zs := [.pointer none] } := by kernel_rfl
theorem tt97 : tab TT 97 = some { k := 1, agg := false, pls := [], elem := none, bas := some (.int .i32), zs := [.int .i32 0] } := by kernel_rfl
theorem tt98 : tab TT 98 = some { k := 1, agg := false, pls := [], elem := none, bas := some (.int .i32), zs := [.int .i32 0] } := by kernel_rfl
end Go.Proofs.Ytogkcokgcoookaa
