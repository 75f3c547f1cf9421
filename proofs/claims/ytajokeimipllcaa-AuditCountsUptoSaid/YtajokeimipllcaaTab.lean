/-
  The table of this program's types, for Dl.
-/
import Derived.Test.YtajokeimipllcaaDl
import Derived.Test.YtajokeimipllcaaProg
namespace Go.Proofs.Ytajokeimipllcaa
open Go.Dl
/-- what the types are -/
def TT : List (Nat × Ty) := [(1, { k := 1, agg := false, zs := [.nilFunc] }),
  (2, { k := 1, agg := false, bas := some (.int .i64), zs := [.int .i64 0] }),
  (3, { k := 1, agg := false, bas := some (.int .i64), zs := [.int .i64 0] }),
  (4, { k := 1, agg := false, bas := some .bool, zs := [.bool false] }),
  (5, { k := 1, agg := false, bas := some (.int .u8), zs := [.int .u8 0] }),
  (6, { k := 1, agg := false, bas := some (.int .u8), zs := [.int .u8 0] }),
  (7, { k := 4, agg := true, pls := [(0, 1), (1, 1), (2, 1), (3, 1)], fts := [2, 3, 4, 6], zs := [.int .i64 0, .int .i64 0, .bool false, .int .u8 0] }),
  (8, { k := 4, agg := true, pls := [(0, 1), (1, 1), (2, 1), (3, 1)], fts := [2, 3, 4, 6], zs := [.int .i64 0, .int .i64 0, .bool false, .int .u8 0] }),
  (9, { k := 1, agg := false, bas := some .str, zs := [.string ⟨#[]⟩] }),
  (10, { k := 1, agg := false, bas := some .str, zs := [.string ⟨#[]⟩] }),
  (11, { k := 1, agg := false, bas := some .str, zs := [.string ⟨#[]⟩] }),
  (12, { k := 1, agg := false, bas := some (.int .u64), zs := [.int .u64 0] }),
  (13, { k := 2, agg := true, pls := [(0, 1), (1, 1)], fts := [9, 12], zs := [.string ⟨#[]⟩, .int .u64 0] }),
  (14, { k := 2, agg := true, pls := [(0, 1), (1, 1)], fts := [9, 12], zs := [.string ⟨#[]⟩, .int .u64 0] }),
  (15, { k := 1, agg := false, zs := [.pointer none] }),
  (16, { k := 1, agg := false, zs := [.pointer none] }),
  (17, { k := 1, agg := false, zs := [.pointer none] }),
  (18, { k := 1, agg := true, pls := [(0, 1)], fts := [17], zs := [.pointer none] }),
  (19, { k := 1, agg := true, pls := [(0, 1)], fts := [17], zs := [.pointer none] }),
  (21, { k := 1, agg := false, bas := some (.int .i32), zs := [.int .i32 0] }),
  (22, { k := 1, agg := false, elem := some (31, 3, 24), zs := [.slice none 0 0] }),
  (23, { k := 1, agg := false, elem := some (35, 2, 32), zs := [.slice none 0 0] }),
  (24, { k := 1, agg := false, zs := [.nilFunc] }),
  (25, { k := 1, agg := false, elem := some (3, 1, 8), zs := [.slice none 0 0] }),
  (26, { k := 1, agg := false, zs := [.nilFunc] }),
  (27, { k := 1, agg := false, zs := [.nilFunc] }),
  (28, { k := 1, agg := false, zs := [.nilFunc] }),
  (29, { k := 1, agg := false, zs := [.nilFunc] }),
  (30, { k := 3, agg := true, pls := [(0, 1), (1, 1), (2, 1)], fts := [3, 3, 3], zs := [.int .i64 0, .int .i64 0, .int .i64 0] }),
  (31, { k := 3, agg := true, pls := [(0, 1), (1, 1), (2, 1)], fts := [3, 3, 3], zs := [.int .i64 0, .int .i64 0, .int .i64 0] }),
  (32, { k := 1, agg := false, bas := some (.int .i64), zs := [.int .i64 0] }),
  (33, { k := 1, agg := false, elem := some (39, 5, 48), zs := [.slice none 0 0] }),
  (34, { k := 2, agg := true, pls := [(0, 1), (1, 1)], fts := [32, 33], zs := [.int .i64 0, .slice none 0 0] }),
  (35, { k := 2, agg := true, pls := [(0, 1), (1, 1)], fts := [32, 33], zs := [.int .i64 0, .slice none 0 0] }),
  (36, { k := 4, agg := true, pls := [(0, 1), (1, 1), (2, 1), (3, 1)], fts := [3, 3, 9, 2], zs := [.int .i64 0, .int .i64 0, .string ⟨#[]⟩, .int .i64 0] }),
  (37, { k := 4, agg := true, pls := [(0, 1), (1, 1), (2, 1), (3, 1)], fts := [3, 3, 9, 2], zs := [.int .i64 0, .int .i64 0, .string ⟨#[]⟩, .int .i64 0] }),
  (38, { k := 5, agg := true, pls := [(0, 1), (1, 4)], fts := [3, 37], zs := [.int .i64 0, .int .i64 0, .int .i64 0, .string ⟨#[]⟩, .int .i64 0] }),
  (39, { k := 5, agg := true, pls := [(0, 1), (1, 4)], fts := [3, 37], zs := [.int .i64 0, .int .i64 0, .int .i64 0, .string ⟨#[]⟩, .int .i64 0] }),
  (40, { k := 6, agg := true, pls := [(0, 1), (1, 1), (2, 1), (3, 1), (4, 1), (5, 1)], fts := [3, 3, 3, 9, 3, 2], zs := [.int .i64 0, .int .i64 0, .int .i64 0, .string ⟨#[]⟩, .int .i64 0, .int .i64 0] }),
  (41, { k := 6, agg := true, pls := [(0, 1), (1, 1), (2, 1), (3, 1), (4, 1), (5, 1)], fts := [3, 3, 3, 9, 3, 2], zs := [.int .i64 0, .int .i64 0, .int .i64 0, .string ⟨#[]⟩, .int .i64 0, .int .i64 0] }),
  (42, { k := 1, agg := false, elem := some (41, 6, 56), zs := [.slice none 0 0] }),
  (43, { k := 1, agg := false, zs := [.nilFunc] }),
  (44, { k := 1, agg := false, zs := [.pointer none] }),
  (45, { k := 1, agg := false, zs := [.map none], mp := some (3, 3) }),
  (46, { k := 1, agg := false, zs := [.map none], mp := some (62, 3) }),
  (47, { k := 1, agg := false, zs := [.map none], mp := some (62, 2) }),
  (48, { k := 1, agg := false, zs := [.map none], mp := some (66, 2) }),
  (49, { k := 7, agg := true, pls := [(0, 1), (1, 1), (2, 1), (3, 1), (4, 1), (5, 1), (6, 1)], fts := [3, 45, 46, 46, 47, 48, 22], zs := [.int .i64 0, .map none, .map none, .map none, .map none, .map none, .slice none 0 0] }),
  (50, { k := 7, agg := true, pls := [(0, 1), (1, 1), (2, 1), (3, 1), (4, 1), (5, 1), (6, 1)], fts := [3, 45, 46, 46, 47, 48, 22], zs := [.int .i64 0, .map none, .map none, .map none, .map none, .map none, .slice none 0 0] }),
  (51, { k := 1, agg := false, zs := [.nilFunc] }),
  (52, { k := 1, agg := false, zs := [.nilFunc] }),
  (53, { k := 1, agg := false, zs := [.nilFunc] }),
  (54, { k := 2, agg := true, pls := [(0, 1), (1, 1)], fts := [3, 3], zs := [.int .i64 0, .int .i64 0] }),
  (55, { k := 2, agg := true, pls := [(0, 1), (1, 1)], fts := [3, 3], zs := [.int .i64 0, .int .i64 0] }),
  (56, { k := 1, agg := false, zs := [.nilFunc] }),
  (57, { k := 1, agg := false, zs := [.nilFunc] }),
  (58, { k := 1, agg := false, zs := [.nilFunc] }),
  (59, { k := 1, agg := false, zs := [.nilFunc] }),
  (60, { k := 1, agg := false, zs := [.nilFunc] }),
  (61, { k := 2, agg := true, pls := [(0, 1), (1, 1)], fts := [3, 3], zs := [.int .i64 0, .int .i64 0] }),
  (62, { k := 2, agg := true, pls := [(0, 1), (1, 1)], fts := [3, 3], zs := [.int .i64 0, .int .i64 0] }),
  (63, { k := 1, agg := false, zs := [.nilFunc] }),
  (64, { k := 1, agg := false, zs := [.nilFunc] }),
  (65, { k := 2, agg := true, pls := [(0, 1), (1, 1)], fts := [3, 9], zs := [.int .i64 0, .string ⟨#[]⟩] }),
  (66, { k := 2, agg := true, pls := [(0, 1), (1, 1)], fts := [3, 9], zs := [.int .i64 0, .string ⟨#[]⟩] }),
  (67, { k := 1, agg := false, zs := [.nilFunc] }),
  (68, { k := 4, agg := true, pls := [(0, 1), (1, 1), (2, 1), (3, 1)], fts := [17, 17, 17, 9], zs := [.pointer none, .pointer none, .pointer none, .string ⟨#[]⟩] }),
  (69, { k := 4, agg := true, pls := [(0, 1), (1, 1), (2, 1), (3, 1)], fts := [17, 17, 17, 9], zs := [.pointer none, .pointer none, .pointer none, .string ⟨#[]⟩] }),
  (73, { k := 1, agg := false, zs := [.nilFunc] }),
  (74, { k := 1, agg := false, bas := some (.int .u32), zs := [.int .u32 0] }),
  (75, { k := 1, agg := false, bas := some (.int .u8), zs := [.int .u8 0] }),
  (76, { k := 1, agg := false, bas := some (.int .u8), zs := [.int .u8 0] }),
  (77, { k := 1, agg := false, zs := [.nilFunc] }),
  (78, { k := 1, agg := false, zs := [.pointer none] }),
  (79, { k := 1, agg := false, bas := some (.int .i32), zs := [.int .i32 0] }),
  (80, { k := 1, agg := false, bas := some (.int .i32), zs := [.int .i32 0] }),
  (81, { k := 11, agg := true, pls := [(0, 1), (1, 1), (2, 1), (3, 1), (4, 1), (5, 1), (6, 1), (7, 1), (8, 1), (9, 1), (10, 1)], fts := [12, 12, 74, 75, 5, 5, 76, 77, 78, 79, 80], zs := [.int .u64 0, .int .u64 0, .int .u32 0, .int .u8 0, .int .u8 0, .int .u8 0, .int .u8 0, .nilFunc, .pointer none, .int .i32 0, .int .i32 0] }),
  (82, { k := 11, agg := true, pls := [(0, 1), (1, 1), (2, 1), (3, 1), (4, 1), (5, 1), (6, 1), (7, 1), (8, 1), (9, 1), (10, 1)], fts := [12, 12, 74, 75, 5, 5, 76, 77, 78, 79, 80], zs := [.int .u64 0, .int .u64 0, .int .u32 0, .int .u8 0, .int .u8 0, .int .u8 0, .int .u8 0, .nilFunc, .pointer none, .int .i32 0, .int .i32 0] })]
theorem TT_ok : tabOk Try.prog TT = true := by kernel_rfl
theorem hT : ∀ t y, tab TT t = some y → TyOk Try.prog t y := fun _ _ h => tab_ok TT_ok h
theorem tt1 : tab TT 1 = some { k := 1, agg := false, zs := [.nilFunc] } := by kernel_rfl
theorem tt2 : tab TT 2 = some { k := 1, agg := false, bas := some (.int .i64), zs := [.int .i64 0] } := by kernel_rfl
theorem tt3 : tab TT 3 = some { k := 1, agg := false, bas := some (.int .i64), zs := [.int .i64 0] } := by kernel_rfl
theorem tt4 : tab TT 4 = some { k := 1, agg := false, bas := some .bool, zs := [.bool false] } := by kernel_rfl
theorem tt5 : tab TT 5 = some { k := 1, agg := false, bas := some (.int .u8), zs := [.int .u8 0] } := by kernel_rfl
theorem tt6 : tab TT 6 = some { k := 1, agg := false, bas := some (.int .u8), zs := [.int .u8 0] } := by kernel_rfl
theorem tt7 : tab TT 7 = some { k := 4, agg := true, pls := [(0, 1), (1, 1), (2, 1), (3, 1)], fts := [2, 3, 4, 6], zs := [.int .i64 0, .int .i64 0, .bool false, .int .u8 0] } := by kernel_rfl
theorem tt8 : tab TT 8 = some { k := 4, agg := true, pls := [(0, 1), (1, 1), (2, 1), (3, 1)], fts := [2, 3, 4, 6], zs := [.int .i64 0, .int .i64 0, .bool false, .int .u8 0] } := by kernel_rfl
theorem tt9 : tab TT 9 = some { k := 1, agg := false, bas := some .str, zs := [.string ⟨#[]⟩] } := by kernel_rfl
theorem tt10 : tab TT 10 = some { k := 1, agg := false, bas := some .str, zs := [.string ⟨#[]⟩] } := by kernel_rfl
theorem tt11 : tab TT 11 = some { k := 1, agg := false, bas := some .str, zs := [.string ⟨#[]⟩] } := by kernel_rfl
theorem tt12 : tab TT 12 = some { k := 1, agg := false, bas := some (.int .u64), zs := [.int .u64 0] } := by kernel_rfl
theorem tt13 : tab TT 13 = some { k := 2, agg := true, pls := [(0, 1), (1, 1)], fts := [9, 12], zs := [.string ⟨#[]⟩, .int .u64 0] } := by kernel_rfl
theorem tt14 : tab TT 14 = some { k := 2, agg := true, pls := [(0, 1), (1, 1)], fts := [9, 12], zs := [.string ⟨#[]⟩, .int .u64 0] } := by kernel_rfl
theorem tt15 : tab TT 15 = some { k := 1, agg := false, zs := [.pointer none] } := by kernel_rfl
theorem tt16 : tab TT 16 = some { k := 1, agg := false, zs := [.pointer none] } := by kernel_rfl
theorem tt17 : tab TT 17 = some { k := 1, agg := false, zs := [.pointer none] } := by kernel_rfl
theorem tt18 : tab TT 18 = some { k := 1, agg := true, pls := [(0, 1)], fts := [17], zs := [.pointer none] } := by kernel_rfl
theorem tt19 : tab TT 19 = some { k := 1, agg := true, pls := [(0, 1)], fts := [17], zs := [.pointer none] } := by kernel_rfl
theorem tt21 : tab TT 21 = some { k := 1, agg := false, bas := some (.int .i32), zs := [.int .i32 0] } := by kernel_rfl
theorem tt22 : tab TT 22 = some { k := 1, agg := false, elem := some (31, 3, 24), zs := [.slice none 0 0] } := by kernel_rfl
theorem tt23 : tab TT 23 = some { k := 1, agg := false, elem := some (35, 2, 32), zs := [.slice none 0 0] } := by kernel_rfl
theorem tt24 : tab TT 24 = some { k := 1, agg := false, zs := [.nilFunc] } := by kernel_rfl
theorem tt25 : tab TT 25 = some { k := 1, agg := false, elem := some (3, 1, 8), zs := [.slice none 0 0] } := by kernel_rfl
theorem tt26 : tab TT 26 = some { k := 1, agg := false, zs := [.nilFunc] } := by kernel_rfl
theorem tt27 : tab TT 27 = some { k := 1, agg := false, zs := [.nilFunc] } := by kernel_rfl
theorem tt28 : tab TT 28 = some { k := 1, agg := false, zs := [.nilFunc] } := by kernel_rfl
theorem tt29 : tab TT 29 = some { k := 1, agg := false, zs := [.nilFunc] } := by kernel_rfl
theorem tt30 : tab TT 30 = some { k := 3, agg := true, pls := [(0, 1), (1, 1), (2, 1)], fts := [3, 3, 3], zs := [.int .i64 0, .int .i64 0, .int .i64 0] } := by kernel_rfl
theorem tt31 : tab TT 31 = some { k := 3, agg := true, pls := [(0, 1), (1, 1), (2, 1)], fts := [3, 3, 3], zs := [.int .i64 0, .int .i64 0, .int .i64 0] } := by kernel_rfl
theorem tt32 : tab TT 32 = some { k := 1, agg := false, bas := some (.int .i64), zs := [.int .i64 0] } := by kernel_rfl
theorem tt33 : tab TT 33 = some { k := 1, agg := false, elem := some (39, 5, 48), zs := [.slice none 0 0] } := by kernel_rfl
theorem tt34 : tab TT 34 = some { k := 2, agg := true, pls := [(0, 1), (1, 1)], fts := [32, 33], zs := [.int .i64 0, .slice none 0 0] } := by kernel_rfl
theorem tt35 : tab TT 35 = some { k := 2, agg := true, pls := [(0, 1), (1, 1)], fts := [32, 33], zs := [.int .i64 0, .slice none 0 0] } := by kernel_rfl
theorem tt36 : tab TT 36 = some { k := 4, agg := true, pls := [(0, 1), (1, 1), (2, 1), (3, 1)], fts := [3, 3, 9, 2], zs := [.int .i64 0, .int .i64 0, .string ⟨#[]⟩, .int .i64 0] } := by kernel_rfl
theorem tt37 : tab TT 37 = some { k := 4, agg := true, pls := [(0, 1), (1, 1), (2, 1), (3, 1)], fts := [3, 3, 9, 2], zs := [.int .i64 0, .int .i64 0, .string ⟨#[]⟩, .int .i64 0] } := by kernel_rfl
theorem tt38 : tab TT 38 = some { k := 5, agg := true, pls := [(0, 1), (1, 4)], fts := [3, 37], zs := [.int .i64 0, .int .i64 0, .int .i64 0, .string ⟨#[]⟩, .int .i64 0] } := by kernel_rfl
theorem tt39 : tab TT 39 = some { k := 5, agg := true, pls := [(0, 1), (1, 4)], fts := [3, 37], zs := [.int .i64 0, .int .i64 0, .int .i64 0, .string ⟨#[]⟩, .int .i64 0] } := by kernel_rfl
theorem tt40 : tab TT 40 = some { k := 6, agg := true, pls := [(0, 1), (1, 1), (2, 1), (3, 1), (4, 1), (5, 1)], fts := [3, 3, 3, 9, 3, 2], zs := [.int .i64 0, .int .i64 0, .int .i64 0, .string ⟨#[]⟩, .int .i64 0, .int .i64 0] } := by kernel_rfl
theorem tt41 : tab TT 41 = some { k := 6, agg := true, pls := [(0, 1), (1, 1), (2, 1), (3, 1), (4, 1), (5, 1)], fts := [3, 3, 3, 9, 3, 2], zs := [.int .i64 0, .int .i64 0, .int .i64 0, .string ⟨#[]⟩, .int .i64 0, .int .i64 0] } := by kernel_rfl
theorem tt42 : tab TT 42 = some { k := 1, agg := false, elem := some (41, 6, 56), zs := [.slice none 0 0] } := by kernel_rfl
theorem tt43 : tab TT 43 = some { k := 1, agg := false, zs := [.nilFunc] } := by kernel_rfl
theorem tt44 : tab TT 44 = some { k := 1, agg := false, zs := [.pointer none] } := by kernel_rfl
theorem tt45 : tab TT 45 = some { k := 1, agg := false, zs := [.map none], mp := some (3, 3) } := by kernel_rfl
theorem tt46 : tab TT 46 = some { k := 1, agg := false, zs := [.map none], mp := some (62, 3) } := by kernel_rfl
theorem tt47 : tab TT 47 = some { k := 1, agg := false, zs := [.map none], mp := some (62, 2) } := by kernel_rfl
theorem tt48 : tab TT 48 = some { k := 1, agg := false, zs := [.map none], mp := some (66, 2) } := by kernel_rfl
theorem tt49 : tab TT 49 = some { k := 7, agg := true, pls := [(0, 1), (1, 1), (2, 1), (3, 1), (4, 1), (5, 1), (6, 1)], fts := [3, 45, 46, 46, 47, 48, 22], zs := [.int .i64 0, .map none, .map none, .map none, .map none, .map none, .slice none 0 0] } := by kernel_rfl
theorem tt50 : tab TT 50 = some { k := 7, agg := true, pls := [(0, 1), (1, 1), (2, 1), (3, 1), (4, 1), (5, 1), (6, 1)], fts := [3, 45, 46, 46, 47, 48, 22], zs := [.int .i64 0, .map none, .map none, .map none, .map none, .map none, .slice none 0 0] } := by kernel_rfl
theorem tt51 : tab TT 51 = some { k := 1, agg := false, zs := [.nilFunc] } := by kernel_rfl
theorem tt52 : tab TT 52 = some { k := 1, agg := false, zs := [.nilFunc] } := by kernel_rfl
theorem tt53 : tab TT 53 = some { k := 1, agg := false, zs := [.nilFunc] } := by kernel_rfl
theorem tt54 : tab TT 54 = some { k := 2, agg := true, pls := [(0, 1), (1, 1)], fts := [3, 3], zs := [.int .i64 0, .int .i64 0] } := by kernel_rfl
theorem tt55 : tab TT 55 = some { k := 2, agg := true, pls := [(0, 1), (1, 1)], fts := [3, 3], zs := [.int .i64 0, .int .i64 0] } := by kernel_rfl
theorem tt56 : tab TT 56 = some { k := 1, agg := false, zs := [.nilFunc] } := by kernel_rfl
theorem tt57 : tab TT 57 = some { k := 1, agg := false, zs := [.nilFunc] } := by kernel_rfl
theorem tt58 : tab TT 58 = some { k := 1, agg := false, zs := [.nilFunc] } := by kernel_rfl
theorem tt59 : tab TT 59 = some { k := 1, agg := false, zs := [.nilFunc] } := by kernel_rfl
theorem tt60 : tab TT 60 = some { k := 1, agg := false, zs := [.nilFunc] } := by kernel_rfl
theorem tt61 : tab TT 61 = some { k := 2, agg := true, pls := [(0, 1), (1, 1)], fts := [3, 3], zs := [.int .i64 0, .int .i64 0] } := by kernel_rfl
theorem tt62 : tab TT 62 = some { k := 2, agg := true, pls := [(0, 1), (1, 1)], fts := [3, 3], zs := [.int .i64 0, .int .i64 0] } := by kernel_rfl
theorem tt63 : tab TT 63 = some { k := 1, agg := false, zs := [.nilFunc] } := by kernel_rfl
theorem tt64 : tab TT 64 = some { k := 1, agg := false, zs := [.nilFunc] } := by kernel_rfl
theorem tt65 : tab TT 65 = some { k := 2, agg := true, pls := [(0, 1), (1, 1)], fts := [3, 9], zs := [.int .i64 0, .string ⟨#[]⟩] } := by kernel_rfl
theorem tt66 : tab TT 66 = some { k := 2, agg := true, pls := [(0, 1), (1, 1)], fts := [3, 9], zs := [.int .i64 0, .string ⟨#[]⟩] } := by kernel_rfl
theorem tt67 : tab TT 67 = some { k := 1, agg := false, zs := [.nilFunc] } := by kernel_rfl
theorem tt68 : tab TT 68 = some { k := 4, agg := true, pls := [(0, 1), (1, 1), (2, 1), (3, 1)], fts := [17, 17, 17, 9], zs := [.pointer none, .pointer none, .pointer none, .string ⟨#[]⟩] } := by kernel_rfl
theorem tt69 : tab TT 69 = some { k := 4, agg := true, pls := [(0, 1), (1, 1), (2, 1), (3, 1)], fts := [17, 17, 17, 9], zs := [.pointer none, .pointer none, .pointer none, .string ⟨#[]⟩] } := by kernel_rfl
theorem tt73 : tab TT 73 = some { k := 1, agg := false, zs := [.nilFunc] } := by kernel_rfl
theorem tt74 : tab TT 74 = some { k := 1, agg := false, bas := some (.int .u32), zs := [.int .u32 0] } := by kernel_rfl
theorem tt75 : tab TT 75 = some { k := 1, agg := false, bas := some (.int .u8), zs := [.int .u8 0] } := by kernel_rfl
theorem tt76 : tab TT 76 = some { k := 1, agg := false, bas := some (.int .u8), zs := [.int .u8 0] } := by kernel_rfl
theorem tt77 : tab TT 77 = some { k := 1, agg := false, zs := [.nilFunc] } := by kernel_rfl
theorem tt78 : tab TT 78 = some { k := 1, agg := false, zs := [.pointer none] } := by kernel_rfl
theorem tt79 : tab TT 79 = some { k := 1, agg := false, bas := some (.int .i32), zs := [.int .i32 0] } := by kernel_rfl
theorem tt80 : tab TT 80 = some { k := 1, agg := false, bas := some (.int .i32), zs := [.int .i32 0] } := by kernel_rfl
theorem tt81 : tab TT 81 = some { k := 11, agg := true, pls := [(0, 1), (1, 1), (2, 1), (3, 1), (4, 1), (5, 1), (6, 1), (7, 1), (8, 1), (9, 1), (10, 1)], fts := [12, 12, 74, 75, 5, 5, 76, 77, 78, 79, 80], zs := [.int .u64 0, .int .u64 0, .int .u32 0, .int .u8 0, .int .u8 0, .int .u8 0, .int .u8 0, .nilFunc, .pointer none, .int .i32 0, .int .i32 0] } := by kernel_rfl
theorem tt82 : tab TT 82 = some { k := 11, agg := true, pls := [(0, 1), (1, 1), (2, 1), (3, 1), (4, 1), (5, 1), (6, 1), (7, 1), (8, 1), (9, 1), (10, 1)], fts := [12, 12, 74, 75, 5, 5, 76, 77, 78, 79, 80], zs := [.int .u64 0, .int .u64 0, .int .u32 0, .int .u8 0, .int .u8 0, .int .u8 0, .int .u8 0, .nilFunc, .pointer none, .int .i32 0, .int .i32 0] } := by kernel_rfl
end Go.Proofs.Ytajokeimipllcaa
