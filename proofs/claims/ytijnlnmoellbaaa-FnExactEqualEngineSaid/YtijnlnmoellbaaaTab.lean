/- The table of the types whose values are data: printed by a program from the types as the model has them. -/
import Derived.Test.YtijnlnmoellbaaaAb18
import Derived.Test.YtijnlnmoellbaaaFrame
import Derived.Laws.StructEq
namespace Go.Proofs.Ytijnlnmoellbaaa.Ab
open Go.RowKit
set_option linter.unusedVariables false
set_option maxRecDepth 100000
def tab : List (TypeId × Ty) := [
  (2, ⟨false, [.i .i64], [], 0, 8, false⟩),
  (3, ⟨false, [.i .i64], [], 0, 8, false⟩),
  (4, ⟨false, [.b], [], 0, 1, false⟩),
  (5, ⟨false, [.i .u8], [], 0, 1, false⟩),
  (6, ⟨false, [.i .u8], [], 0, 1, false⟩),
  (7, ⟨true, [.i .i64, .i .i64, .b, .i .u8], [(0, 1), (1, 1), (2, 1), (3, 1)], 0, 24, false⟩),
  (8, ⟨true, [.i .i64, .i .i64, .b, .i .u8], [(0, 1), (1, 1), (2, 1), (3, 1)], 0, 24, false⟩),
  (9, ⟨false, [.s], [], 0, 16, false⟩),
  (10, ⟨false, [.s], [], 0, 16, false⟩),
  (11, ⟨false, [.s], [], 0, 16, false⟩),
  (12, ⟨false, [.i .u64], [], 0, 8, false⟩),
  (13, ⟨true, [.s, .i .u64], [(0, 1), (1, 1)], 0, 24, false⟩),
  (14, ⟨true, [.s, .i .u64], [(0, 1), (1, 1)], 0, 24, false⟩),
  (21, ⟨false, [.i .i32], [], 0, 4, false⟩),
  (22, ⟨false, [.l 5], [], 0, 24, false⟩),
  (24, ⟨false, [.l 32], [], 0, 24, false⟩),
  (30, ⟨false, [.l 78], [], 0, 24, false⟩),
  (31, ⟨true, [.i .i64, .i .i64, .l 78], [(0, 1), (1, 1), (2, 1)], 0, 40, false⟩),
  (32, ⟨true, [.i .i64, .i .i64, .l 78], [(0, 1), (1, 1), (2, 1)], 0, 40, false⟩),
  (33, ⟨false, [.l 95], [], 0, 24, false⟩),
  (38, ⟨false, [.l 181], [], 0, 24, false⟩),
  (39, ⟨true, [.l 181], [(0, 1)], 0, 24, false⟩),
  (40, ⟨true, [.l 181], [(0, 1)], 0, 24, false⟩),
  (41, ⟨false, [.l 183], [], 0, 24, false⟩),
  (42, ⟨true, [.i .i64, .i .i64, .l 183], [(0, 1), (1, 1), (2, 1)], 0, 40, false⟩),
  (43, ⟨true, [.i .i64, .i .i64, .l 183], [(0, 1), (1, 1), (2, 1)], 0, 40, false⟩),
  (44, ⟨false, [.l 144], [], 0, 24, false⟩),
  (45, ⟨true, [.l 181, .i .i64, .i .i64, .l 183, .l 95, .l 144, .i .i64, .i .i64, .i .i64], [(0, 1), (1, 3), (4, 1), (5, 1), (6, 1), (7, 1), (8, 1)], 0, 136, false⟩),
  (46, ⟨true, [.l 181, .i .i64, .i .i64, .l 183, .l 95, .l 144, .i .i64, .i .i64, .i .i64], [(0, 1), (1, 3), (4, 1), (5, 1), (6, 1), (7, 1), (8, 1)], 0, 136, false⟩),
  (49, ⟨false, [.l 146], [], 0, 24, false⟩),
  (50, ⟨true, [.l 146], [(0, 1)], 0, 24, false⟩),
  (51, ⟨true, [.l 146], [(0, 1)], 0, 24, false⟩),
  (52, ⟨false, [.l 113], [], 0, 24, false⟩),
  (53, ⟨true, [.i .i64, .i .i64, .l 113], [(0, 1), (1, 1), (2, 1)], 0, 40, false⟩),
  (54, ⟨true, [.i .i64, .i .i64, .l 113], [(0, 1), (1, 1), (2, 1)], 0, 40, false⟩),
  (55, ⟨false, [.l 105], [], 0, 24, false⟩),
  (56, ⟨true, [.l 146, .i .i64, .i .i64, .l 113, .l 32, .l 105, .i .i64, .i .i64, .i .i64], [(0, 1), (1, 3), (4, 1), (5, 1), (6, 1), (7, 1), (8, 1)], 0, 136, false⟩),
  (57, ⟨true, [.l 146, .i .i64, .i .i64, .l 113, .l 32, .l 105, .i .i64, .i .i64, .i .i64], [(0, 1), (1, 3), (4, 1), (5, 1), (6, 1), (7, 1), (8, 1)], 0, 136, false⟩),
  (60, ⟨false, [.l 160], [], 0, 24, false⟩),
  (61, ⟨true, [.l 146, .l 160, .i .i64], [(0, 1), (1, 1), (2, 1)], 0, 56, false⟩),
  (62, ⟨true, [.l 146, .l 160, .i .i64], [(0, 1), (1, 1), (2, 1)], 0, 56, false⟩),
  (63, ⟨true, [.l 146, .i .i64, .i .i64, .l 113, .l 32, .l 105, .i .i64, .i .i64, .i .i64, .l 146, .l 160, .i .i64], [(0, 9), (9, 3)], 0, 192, false⟩),
  (64, ⟨true, [.l 146, .i .i64, .i .i64, .l 113, .l 32, .l 105, .i .i64, .i .i64, .i .i64, .l 146, .l 160, .i .i64], [(0, 9), (9, 3)], 0, 192, false⟩),
  (72, ⟨false, [.l 76], [], 0, 24, false⟩),
  (73, ⟨false, [.l 9], [], 0, 24, false⟩),
  (74, ⟨false, [.l 172], [], 0, 24, false⟩),
  (75, ⟨true, [.i .i64, .i .i64, .i .i64, .s, .l 76, .l 9, .l 172], [(0, 1), (1, 1), (2, 1), (3, 1), (4, 1), (5, 1), (6, 1)], 0, 112, false⟩),
  (76, ⟨true, [.i .i64, .i .i64, .i .i64, .s, .l 76, .l 9, .l 172], [(0, 1), (1, 1), (2, 1), (3, 1), (4, 1), (5, 1), (6, 1)], 0, 112, false⟩),
  (77, ⟨true, [.i .i64, .i .i64, .i .i64, .s, .i .i64, .i .i64, .i .i64, .s, .l 76, .l 9, .l 172], [(0, 1), (1, 1), (2, 1), (3, 1), (4, 7)], 0, 152, false⟩),
  (78, ⟨true, [.i .i64, .i .i64, .i .i64, .s, .i .i64, .i .i64, .i .i64, .s, .l 76, .l 9, .l 172], [(0, 1), (1, 1), (2, 1), (3, 1), (4, 7)], 0, 152, false⟩),
  (84, ⟨false, [.l 247], [], 0, 24, false⟩),
  (85, ⟨true, [.l 146, .l 32, .l 247], [(0, 1), (1, 1), (2, 1)], 0, 72, false⟩),
  (86, ⟨true, [.l 146, .l 32, .l 247], [(0, 1), (1, 1), (2, 1)], 0, 72, false⟩),
  (93, ⟨false, [.l 176], [], 0, 24, false⟩),
  (94, ⟨true, [.i .i64, .i .i64, .l 176], [(0, 1), (1, 1), (2, 1)], 0, 40, false⟩),
  (95, ⟨true, [.i .i64, .i .i64, .l 176], [(0, 1), (1, 1), (2, 1)], 0, 40, false⟩),
  (103, ⟨false, [.l 3], [], 0, 24, false⟩),
  (104, ⟨true, [.i .i64, .i .i64, .i .i64, .l 3, .i .i64, .i .i64, .i .i64, .s, .l 76, .l 9, .l 172, .b], [(0, 1), (1, 1), (2, 1), (3, 1), (4, 7), (11, 1)], 0, 168, false⟩),
  (105, ⟨true, [.i .i64, .i .i64, .i .i64, .l 3, .i .i64, .i .i64, .i .i64, .s, .l 76, .l 9, .l 172, .b], [(0, 1), (1, 1), (2, 1), (3, 1), (4, 7), (11, 1)], 0, 168, false⟩),
  (112, ⟨true, [.s, .i .i64], [(0, 1), (1, 1)], 0, 24, false⟩),
  (113, ⟨true, [.s, .i .i64], [(0, 1), (1, 1)], 0, 24, true⟩),
  (122, ⟨true, [.l 5, .i .i64, .i .i64], [(0, 1), (1, 1), (2, 1)], 0, 40, false⟩),
  (123, ⟨true, [.l 5, .i .i64, .i .i64], [(0, 1), (1, 1), (2, 1)], 0, 40, false⟩),
  (139, ⟨false, [.l 142], [], 0, 24, false⟩),
  (140, ⟨false, [.l 218], [], 0, 24, false⟩),
  (141, ⟨true, [.i .i64, .i .i64, .i .i64, .s, .l 142, .l 9, .l 218], [(0, 1), (1, 1), (2, 1), (3, 1), (4, 1), (5, 1), (6, 1)], 0, 112, false⟩),
  (142, ⟨true, [.i .i64, .i .i64, .i .i64, .s, .l 142, .l 9, .l 218], [(0, 1), (1, 1), (2, 1), (3, 1), (4, 1), (5, 1), (6, 1)], 0, 112, false⟩),
  (143, ⟨true, [.i .i64, .i .i64, .i .i64, .l 3, .i .i64, .i .i64, .i .i64, .s, .l 142, .l 9, .l 218, .b], [(0, 1), (1, 1), (2, 1), (3, 1), (4, 7), (11, 1)], 0, 168, false⟩),
  (144, ⟨true, [.i .i64, .i .i64, .i .i64, .l 3, .i .i64, .i .i64, .i .i64, .s, .l 142, .l 9, .l 218, .b], [(0, 1), (1, 1), (2, 1), (3, 1), (4, 7), (11, 1)], 0, 168, false⟩),
  (145, ⟨true, [.i .i64, .i .i64, .i .i64, .s, .s, .i .i64], [(0, 1), (1, 1), (2, 1), (3, 1), (4, 1), (5, 1)], 0, 64, false⟩),
  (146, ⟨true, [.i .i64, .i .i64, .i .i64, .s, .s, .i .i64], [(0, 1), (1, 1), (2, 1), (3, 1), (4, 1), (5, 1)], 0, 64, true⟩),
  (158, ⟨false, [.l 214], [], 0, 24, false⟩),
  (159, ⟨true, [.i .i64, .l 214, .l 214], [(0, 1), (1, 1), (2, 1)], 0, 56, false⟩),
  (160, ⟨true, [.i .i64, .l 214, .l 214], [(0, 1), (1, 1), (2, 1)], 0, 56, false⟩),
  (170, ⟨false, [.l 192], [], 0, 24, false⟩),
  (171, ⟨true, [.l 3, .l 192], [(0, 1), (1, 1)], 0, 48, false⟩),
  (172, ⟨true, [.l 3, .l 192], [(0, 1), (1, 1)], 0, 48, false⟩),
  (175, ⟨true, [.i .i64, .i .i64, .i .i64, .s, .i .i64, .i .i64, .i .i64, .s, .l 142, .l 9, .l 218], [(0, 1), (1, 1), (2, 1), (3, 1), (4, 7)], 0, 152, false⟩),
  (176, ⟨true, [.i .i64, .i .i64, .i .i64, .s, .i .i64, .i .i64, .i .i64, .s, .l 142, .l 9, .l 218], [(0, 1), (1, 1), (2, 1), (3, 1), (4, 7)], 0, 152, false⟩),
  (181, ⟨true, [.i .i64, .i .i64, .i .i64, .s, .s, .i .i64], [(0, 1), (1, 1), (2, 1), (3, 1), (4, 1), (5, 1)], 0, 64, true⟩),
  (183, ⟨true, [.s, .i .i64], [(0, 1), (1, 1)], 0, 24, true⟩),
  (191, ⟨true, [.i .i64, .i .i64], [(0, 1), (1, 1)], 0, 16, false⟩),
  (192, ⟨true, [.i .i64, .i .i64], [(0, 1), (1, 1)], 0, 16, true⟩),
  (203, ⟨false, [.i .u64], [], 0, 8, false⟩),
  (213, ⟨true, [.i .i64, .i .i64, .i .i64, .i .i64, .i .i64, .s, .s, .i .i64], [(0, 1), (1, 1), (2, 6)], 0, 80, false⟩),
  (214, ⟨true, [.i .i64, .i .i64, .i .i64, .i .i64, .i .i64, .s, .s, .i .i64], [(0, 1), (1, 1), (2, 6)], 0, 80, false⟩),
  (216, ⟨false, [.l 228], [], 0, 24, false⟩),
  (217, ⟨true, [.l 3, .l 228], [(0, 1), (1, 1)], 0, 48, false⟩),
  (218, ⟨true, [.l 3, .l 228], [(0, 1), (1, 1)], 0, 48, false⟩),
  (228, ⟨true, [.i .i64, .i .i64], [(0, 1), (1, 1)], 0, 16, true⟩),
  (237, ⟨false, [.i .u32], [], 0, 4, false⟩),
  (238, ⟨false, [.i .u8], [], 0, 1, false⟩),
  (239, ⟨false, [.i .u8], [], 0, 1, false⟩),
  (242, ⟨false, [.i .i32], [], 0, 4, false⟩),
  (243, ⟨false, [.i .i32], [], 0, 4, false⟩),
  (246, ⟨true, [.i .i64, .i .i64, .i .i64, .l 3, .i .i64, .i .i64, .i .i64, .i .i64, .i .i64, .s, .s, .i .i64, .s, .s, .i .i64, .i .i64, .l 78], [(0, 1), (1, 1), (2, 1), (3, 1), (4, 8), (12, 1), (13, 1), (14, 1), (15, 1), (16, 1)], 0, 200, false⟩),
  (247, ⟨true, [.i .i64, .i .i64, .i .i64, .l 3, .i .i64, .i .i64, .i .i64, .i .i64, .i .i64, .s, .s, .i .i64, .s, .s, .i .i64, .i .i64, .l 78], [(0, 1), (1, 1), (2, 1), (3, 1), (4, 8), (12, 1), (13, 1), (14, 1), (15, 1), (16, 1)], 0, 200, false⟩)]
abbrev T : Tab := tabOf tab
theorem ty_2 : TyOk Try.prog T 2 ⟨false, [.i .i64], [], 0, 8, false⟩ := TyOk.mkOne (c := .i .i64) Try.underlying2 rfl (by kernel_rfl) rfl rfl (by kernel_rfl)
theorem ty_3 : TyOk Try.prog T 3 ⟨false, [.i .i64], [], 0, 8, false⟩ := TyOk.mkOne (c := .i .i64) Try.underlying3 rfl (by kernel_rfl) rfl rfl (by kernel_rfl)
theorem ty_4 : TyOk Try.prog T 4 ⟨false, [.b], [], 0, 1, false⟩ := TyOk.mkOne (c := .b) Try.underlying4 rfl (by kernel_rfl) rfl rfl (by kernel_rfl)
theorem ty_5 : TyOk Try.prog T 5 ⟨false, [.i .u8], [], 0, 1, false⟩ := TyOk.mkOne (c := .i .u8) Try.underlying5 rfl (by kernel_rfl) rfl rfl (by kernel_rfl)
theorem ty_6 : TyOk Try.prog T 6 ⟨false, [.i .u8], [], 0, 1, false⟩ := TyOk.mkOne (c := .i .u8) Try.underlying6 rfl (by kernel_rfl) rfl rfl (by kernel_rfl)
theorem ty_7 : TyOk Try.prog T 7 ⟨true, [.i .i64, .i .i64, .b, .i .u8], [(0, 1), (1, 1), (2, 1), (3, 1)], 0, 24, false⟩ := TyOk.mkAgg (by kernel_rfl) rfl (by kernel_rfl) (show Try.prog.underlying 7 = some (.struct _) from Try.underlying7) (by kernel_rfl) (by kernel_rfl) (fun h => by cases h)
theorem ty_8 : TyOk Try.prog T 8 ⟨true, [.i .i64, .i .i64, .b, .i .u8], [(0, 1), (1, 1), (2, 1), (3, 1)], 0, 24, false⟩ := TyOk.mkAgg (by kernel_rfl) rfl (by kernel_rfl) (show Try.prog.underlying 8 = some (.struct _) from Try.underlying8) (by kernel_rfl) (by kernel_rfl) (fun h => by cases h)
theorem ty_9 : TyOk Try.prog T 9 ⟨false, [.s], [], 0, 16, false⟩ := TyOk.mkOne (c := .s) Try.underlying9 rfl (by kernel_rfl) rfl rfl (by kernel_rfl)
theorem ty_10 : TyOk Try.prog T 10 ⟨false, [.s], [], 0, 16, false⟩ := TyOk.mkOne (c := .s) Try.underlying10 rfl (by kernel_rfl) rfl rfl (by kernel_rfl)
theorem ty_11 : TyOk Try.prog T 11 ⟨false, [.s], [], 0, 16, false⟩ := TyOk.mkOne (c := .s) Try.underlying11 rfl (by kernel_rfl) rfl rfl (by kernel_rfl)
theorem ty_12 : TyOk Try.prog T 12 ⟨false, [.i .u64], [], 0, 8, false⟩ := TyOk.mkOne (c := .i .u64) Try.underlying12 rfl (by kernel_rfl) rfl rfl (by kernel_rfl)
theorem ty_13 : TyOk Try.prog T 13 ⟨true, [.s, .i .u64], [(0, 1), (1, 1)], 0, 24, false⟩ := TyOk.mkAgg (by kernel_rfl) rfl (by kernel_rfl) (show Try.prog.underlying 13 = some (.struct _) from Try.underlying13) (by kernel_rfl) (by kernel_rfl) (fun h => by cases h)
theorem ty_14 : TyOk Try.prog T 14 ⟨true, [.s, .i .u64], [(0, 1), (1, 1)], 0, 24, false⟩ := TyOk.mkAgg (by kernel_rfl) rfl (by kernel_rfl) (show Try.prog.underlying 14 = some (.struct _) from Try.underlying14) (by kernel_rfl) (by kernel_rfl) (fun h => by cases h)
theorem ty_21 : TyOk Try.prog T 21 ⟨false, [.i .i32], [], 0, 4, false⟩ := TyOk.mkOne (c := .i .i32) Try.underlying21 rfl (by kernel_rfl) rfl rfl (by kernel_rfl)
theorem ty_22 : TyOk Try.prog T 22 ⟨false, [.l 5], [], 0, 24, false⟩ := TyOk.mkOne (c := .l 5) Try.underlying22 rfl (by kernel_rfl) rfl rfl (by kernel_rfl)
theorem ty_24 : TyOk Try.prog T 24 ⟨false, [.l 32], [], 0, 24, false⟩ := TyOk.mkOne (c := .l 32) Try.underlying24 rfl (by kernel_rfl) rfl rfl (by kernel_rfl)
theorem ty_30 : TyOk Try.prog T 30 ⟨false, [.l 78], [], 0, 24, false⟩ := TyOk.mkOne (c := .l 78) Try.underlying30 rfl (by kernel_rfl) rfl rfl (by kernel_rfl)
theorem ty_31 : TyOk Try.prog T 31 ⟨true, [.i .i64, .i .i64, .l 78], [(0, 1), (1, 1), (2, 1)], 0, 40, false⟩ := TyOk.mkAgg (by kernel_rfl) rfl (by kernel_rfl) (show Try.prog.underlying 31 = some (.struct _) from Try.underlying31) (by kernel_rfl) (by kernel_rfl) (fun h => by cases h)
theorem ty_32 : TyOk Try.prog T 32 ⟨true, [.i .i64, .i .i64, .l 78], [(0, 1), (1, 1), (2, 1)], 0, 40, false⟩ := TyOk.mkAgg (by kernel_rfl) rfl (by kernel_rfl) (show Try.prog.underlying 32 = some (.struct _) from Try.underlying32) (by kernel_rfl) (by kernel_rfl) (fun h => by cases h)
theorem ty_33 : TyOk Try.prog T 33 ⟨false, [.l 95], [], 0, 24, false⟩ := TyOk.mkOne (c := .l 95) Try.underlying33 rfl (by kernel_rfl) rfl rfl (by kernel_rfl)
theorem ty_38 : TyOk Try.prog T 38 ⟨false, [.l 181], [], 0, 24, false⟩ := TyOk.mkOne (c := .l 181) Try.underlying38 rfl (by kernel_rfl) rfl rfl (by kernel_rfl)
theorem ty_39 : TyOk Try.prog T 39 ⟨true, [.l 181], [(0, 1)], 0, 24, false⟩ := TyOk.mkAgg (by kernel_rfl) rfl (by kernel_rfl) (show Try.prog.underlying 39 = some (.struct _) from Try.underlying39) (by kernel_rfl) (by kernel_rfl) (fun h => by cases h)
theorem ty_40 : TyOk Try.prog T 40 ⟨true, [.l 181], [(0, 1)], 0, 24, false⟩ := TyOk.mkAgg (by kernel_rfl) rfl (by kernel_rfl) (show Try.prog.underlying 40 = some (.struct _) from Try.underlying40) (by kernel_rfl) (by kernel_rfl) (fun h => by cases h)
theorem ty_41 : TyOk Try.prog T 41 ⟨false, [.l 183], [], 0, 24, false⟩ := TyOk.mkOne (c := .l 183) Try.underlying41 rfl (by kernel_rfl) rfl rfl (by kernel_rfl)
theorem ty_42 : TyOk Try.prog T 42 ⟨true, [.i .i64, .i .i64, .l 183], [(0, 1), (1, 1), (2, 1)], 0, 40, false⟩ := TyOk.mkAgg (by kernel_rfl) rfl (by kernel_rfl) (show Try.prog.underlying 42 = some (.struct _) from Try.underlying42) (by kernel_rfl) (by kernel_rfl) (fun h => by cases h)
theorem ty_43 : TyOk Try.prog T 43 ⟨true, [.i .i64, .i .i64, .l 183], [(0, 1), (1, 1), (2, 1)], 0, 40, false⟩ := TyOk.mkAgg (by kernel_rfl) rfl (by kernel_rfl) (show Try.prog.underlying 43 = some (.struct _) from Try.underlying43) (by kernel_rfl) (by kernel_rfl) (fun h => by cases h)
theorem ty_44 : TyOk Try.prog T 44 ⟨false, [.l 144], [], 0, 24, false⟩ := TyOk.mkOne (c := .l 144) Try.underlying44 rfl (by kernel_rfl) rfl rfl (by kernel_rfl)
theorem ty_45 : TyOk Try.prog T 45 ⟨true, [.l 181, .i .i64, .i .i64, .l 183, .l 95, .l 144, .i .i64, .i .i64, .i .i64], [(0, 1), (1, 3), (4, 1), (5, 1), (6, 1), (7, 1), (8, 1)], 0, 136, false⟩ := TyOk.mkAgg (by kernel_rfl) rfl (by kernel_rfl) (show Try.prog.underlying 45 = some (.struct _) from Try.underlying45) (by kernel_rfl) (by kernel_rfl) (fun h => by cases h)
theorem ty_46 : TyOk Try.prog T 46 ⟨true, [.l 181, .i .i64, .i .i64, .l 183, .l 95, .l 144, .i .i64, .i .i64, .i .i64], [(0, 1), (1, 3), (4, 1), (5, 1), (6, 1), (7, 1), (8, 1)], 0, 136, false⟩ := TyOk.mkAgg (by kernel_rfl) rfl (by kernel_rfl) (show Try.prog.underlying 46 = some (.struct _) from Try.underlying46) (by kernel_rfl) (by kernel_rfl) (fun h => by cases h)
theorem ty_49 : TyOk Try.prog T 49 ⟨false, [.l 146], [], 0, 24, false⟩ := TyOk.mkOne (c := .l 146) Try.underlying49 rfl (by kernel_rfl) rfl rfl (by kernel_rfl)
theorem ty_50 : TyOk Try.prog T 50 ⟨true, [.l 146], [(0, 1)], 0, 24, false⟩ := TyOk.mkAgg (by kernel_rfl) rfl (by kernel_rfl) (show Try.prog.underlying 50 = some (.struct _) from Try.underlying50) (by kernel_rfl) (by kernel_rfl) (fun h => by cases h)
theorem ty_51 : TyOk Try.prog T 51 ⟨true, [.l 146], [(0, 1)], 0, 24, false⟩ := TyOk.mkAgg (by kernel_rfl) rfl (by kernel_rfl) (show Try.prog.underlying 51 = some (.struct _) from Try.underlying51) (by kernel_rfl) (by kernel_rfl) (fun h => by cases h)
theorem ty_52 : TyOk Try.prog T 52 ⟨false, [.l 113], [], 0, 24, false⟩ := TyOk.mkOne (c := .l 113) Try.underlying52 rfl (by kernel_rfl) rfl rfl (by kernel_rfl)
theorem ty_53 : TyOk Try.prog T 53 ⟨true, [.i .i64, .i .i64, .l 113], [(0, 1), (1, 1), (2, 1)], 0, 40, false⟩ := TyOk.mkAgg (by kernel_rfl) rfl (by kernel_rfl) (show Try.prog.underlying 53 = some (.struct _) from Try.underlying53) (by kernel_rfl) (by kernel_rfl) (fun h => by cases h)
theorem ty_54 : TyOk Try.prog T 54 ⟨true, [.i .i64, .i .i64, .l 113], [(0, 1), (1, 1), (2, 1)], 0, 40, false⟩ := TyOk.mkAgg (by kernel_rfl) rfl (by kernel_rfl) (show Try.prog.underlying 54 = some (.struct _) from Try.underlying54) (by kernel_rfl) (by kernel_rfl) (fun h => by cases h)
theorem ty_55 : TyOk Try.prog T 55 ⟨false, [.l 105], [], 0, 24, false⟩ := TyOk.mkOne (c := .l 105) Try.underlying55 rfl (by kernel_rfl) rfl rfl (by kernel_rfl)
theorem ty_56 : TyOk Try.prog T 56 ⟨true, [.l 146, .i .i64, .i .i64, .l 113, .l 32, .l 105, .i .i64, .i .i64, .i .i64], [(0, 1), (1, 3), (4, 1), (5, 1), (6, 1), (7, 1), (8, 1)], 0, 136, false⟩ := TyOk.mkAgg (by kernel_rfl) rfl (by kernel_rfl) (show Try.prog.underlying 56 = some (.struct _) from Try.underlying56) (by kernel_rfl) (by kernel_rfl) (fun h => by cases h)
theorem ty_57 : TyOk Try.prog T 57 ⟨true, [.l 146, .i .i64, .i .i64, .l 113, .l 32, .l 105, .i .i64, .i .i64, .i .i64], [(0, 1), (1, 3), (4, 1), (5, 1), (6, 1), (7, 1), (8, 1)], 0, 136, false⟩ := TyOk.mkAgg (by kernel_rfl) rfl (by kernel_rfl) (show Try.prog.underlying 57 = some (.struct _) from Try.underlying57) (by kernel_rfl) (by kernel_rfl) (fun h => by cases h)
theorem ty_60 : TyOk Try.prog T 60 ⟨false, [.l 160], [], 0, 24, false⟩ := TyOk.mkOne (c := .l 160) Try.underlying60 rfl (by kernel_rfl) rfl rfl (by kernel_rfl)
theorem ty_61 : TyOk Try.prog T 61 ⟨true, [.l 146, .l 160, .i .i64], [(0, 1), (1, 1), (2, 1)], 0, 56, false⟩ := TyOk.mkAgg (by kernel_rfl) rfl (by kernel_rfl) (show Try.prog.underlying 61 = some (.struct _) from Try.underlying61) (by kernel_rfl) (by kernel_rfl) (fun h => by cases h)
theorem ty_62 : TyOk Try.prog T 62 ⟨true, [.l 146, .l 160, .i .i64], [(0, 1), (1, 1), (2, 1)], 0, 56, false⟩ := TyOk.mkAgg (by kernel_rfl) rfl (by kernel_rfl) (show Try.prog.underlying 62 = some (.struct _) from Try.underlying62) (by kernel_rfl) (by kernel_rfl) (fun h => by cases h)
theorem ty_63 : TyOk Try.prog T 63 ⟨true, [.l 146, .i .i64, .i .i64, .l 113, .l 32, .l 105, .i .i64, .i .i64, .i .i64, .l 146, .l 160, .i .i64], [(0, 9), (9, 3)], 0, 192, false⟩ := TyOk.mkAgg (by kernel_rfl) rfl (by kernel_rfl) (show Try.prog.underlying 63 = some (.struct _) from Try.underlying63) (by kernel_rfl) (by kernel_rfl) (fun h => by cases h)
theorem ty_64 : TyOk Try.prog T 64 ⟨true, [.l 146, .i .i64, .i .i64, .l 113, .l 32, .l 105, .i .i64, .i .i64, .i .i64, .l 146, .l 160, .i .i64], [(0, 9), (9, 3)], 0, 192, false⟩ := TyOk.mkAgg (by kernel_rfl) rfl (by kernel_rfl) (show Try.prog.underlying 64 = some (.struct _) from Try.underlying64) (by kernel_rfl) (by kernel_rfl) (fun h => by cases h)
theorem ty_72 : TyOk Try.prog T 72 ⟨false, [.l 76], [], 0, 24, false⟩ := TyOk.mkOne (c := .l 76) Try.underlying72 rfl (by kernel_rfl) rfl rfl (by kernel_rfl)
theorem ty_73 : TyOk Try.prog T 73 ⟨false, [.l 9], [], 0, 24, false⟩ := TyOk.mkOne (c := .l 9) Try.underlying73 rfl (by kernel_rfl) rfl rfl (by kernel_rfl)
theorem ty_74 : TyOk Try.prog T 74 ⟨false, [.l 172], [], 0, 24, false⟩ := TyOk.mkOne (c := .l 172) Try.underlying74 rfl (by kernel_rfl) rfl rfl (by kernel_rfl)
theorem ty_75 : TyOk Try.prog T 75 ⟨true, [.i .i64, .i .i64, .i .i64, .s, .l 76, .l 9, .l 172], [(0, 1), (1, 1), (2, 1), (3, 1), (4, 1), (5, 1), (6, 1)], 0, 112, false⟩ := TyOk.mkAgg (by kernel_rfl) rfl (by kernel_rfl) (show Try.prog.underlying 75 = some (.struct _) from Try.underlying75) (by kernel_rfl) (by kernel_rfl) (fun h => by cases h)
theorem ty_76 : TyOk Try.prog T 76 ⟨true, [.i .i64, .i .i64, .i .i64, .s, .l 76, .l 9, .l 172], [(0, 1), (1, 1), (2, 1), (3, 1), (4, 1), (5, 1), (6, 1)], 0, 112, false⟩ := TyOk.mkAgg (by kernel_rfl) rfl (by kernel_rfl) (show Try.prog.underlying 76 = some (.struct _) from Try.underlying76) (by kernel_rfl) (by kernel_rfl) (fun h => by cases h)
theorem ty_77 : TyOk Try.prog T 77 ⟨true, [.i .i64, .i .i64, .i .i64, .s, .i .i64, .i .i64, .i .i64, .s, .l 76, .l 9, .l 172], [(0, 1), (1, 1), (2, 1), (3, 1), (4, 7)], 0, 152, false⟩ := TyOk.mkAgg (by kernel_rfl) rfl (by kernel_rfl) (show Try.prog.underlying 77 = some (.struct _) from Try.underlying77) (by kernel_rfl) (by kernel_rfl) (fun h => by cases h)
theorem ty_78 : TyOk Try.prog T 78 ⟨true, [.i .i64, .i .i64, .i .i64, .s, .i .i64, .i .i64, .i .i64, .s, .l 76, .l 9, .l 172], [(0, 1), (1, 1), (2, 1), (3, 1), (4, 7)], 0, 152, false⟩ := TyOk.mkAgg (by kernel_rfl) rfl (by kernel_rfl) (show Try.prog.underlying 78 = some (.struct _) from Try.underlying78) (by kernel_rfl) (by kernel_rfl) (fun h => by cases h)
theorem ty_84 : TyOk Try.prog T 84 ⟨false, [.l 247], [], 0, 24, false⟩ := TyOk.mkOne (c := .l 247) Try.underlying84 rfl (by kernel_rfl) rfl rfl (by kernel_rfl)
theorem ty_85 : TyOk Try.prog T 85 ⟨true, [.l 146, .l 32, .l 247], [(0, 1), (1, 1), (2, 1)], 0, 72, false⟩ := TyOk.mkAgg (by kernel_rfl) rfl (by kernel_rfl) (show Try.prog.underlying 85 = some (.struct _) from Try.underlying85) (by kernel_rfl) (by kernel_rfl) (fun h => by cases h)
theorem ty_86 : TyOk Try.prog T 86 ⟨true, [.l 146, .l 32, .l 247], [(0, 1), (1, 1), (2, 1)], 0, 72, false⟩ := TyOk.mkAgg (by kernel_rfl) rfl (by kernel_rfl) (show Try.prog.underlying 86 = some (.struct _) from Try.underlying86) (by kernel_rfl) (by kernel_rfl) (fun h => by cases h)
theorem ty_93 : TyOk Try.prog T 93 ⟨false, [.l 176], [], 0, 24, false⟩ := TyOk.mkOne (c := .l 176) Try.underlying93 rfl (by kernel_rfl) rfl rfl (by kernel_rfl)
theorem ty_94 : TyOk Try.prog T 94 ⟨true, [.i .i64, .i .i64, .l 176], [(0, 1), (1, 1), (2, 1)], 0, 40, false⟩ := TyOk.mkAgg (by kernel_rfl) rfl (by kernel_rfl) (show Try.prog.underlying 94 = some (.struct _) from Try.underlying94) (by kernel_rfl) (by kernel_rfl) (fun h => by cases h)
theorem ty_95 : TyOk Try.prog T 95 ⟨true, [.i .i64, .i .i64, .l 176], [(0, 1), (1, 1), (2, 1)], 0, 40, false⟩ := TyOk.mkAgg (by kernel_rfl) rfl (by kernel_rfl) (show Try.prog.underlying 95 = some (.struct _) from Try.underlying95) (by kernel_rfl) (by kernel_rfl) (fun h => by cases h)
theorem ty_103 : TyOk Try.prog T 103 ⟨false, [.l 3], [], 0, 24, false⟩ := TyOk.mkOne (c := .l 3) Try.underlying103 rfl (by kernel_rfl) rfl rfl (by kernel_rfl)
theorem ty_104 : TyOk Try.prog T 104 ⟨true, [.i .i64, .i .i64, .i .i64, .l 3, .i .i64, .i .i64, .i .i64, .s, .l 76, .l 9, .l 172, .b], [(0, 1), (1, 1), (2, 1), (3, 1), (4, 7), (11, 1)], 0, 168, false⟩ := TyOk.mkAgg (by kernel_rfl) rfl (by kernel_rfl) (show Try.prog.underlying 104 = some (.struct _) from Try.underlying104) (by kernel_rfl) (by kernel_rfl) (fun h => by cases h)
theorem ty_105 : TyOk Try.prog T 105 ⟨true, [.i .i64, .i .i64, .i .i64, .l 3, .i .i64, .i .i64, .i .i64, .s, .l 76, .l 9, .l 172, .b], [(0, 1), (1, 1), (2, 1), (3, 1), (4, 7), (11, 1)], 0, 168, false⟩ := TyOk.mkAgg (by kernel_rfl) rfl (by kernel_rfl) (show Try.prog.underlying 105 = some (.struct _) from Try.underlying105) (by kernel_rfl) (by kernel_rfl) (fun h => by cases h)
theorem ty_112 : TyOk Try.prog T 112 ⟨true, [.s, .i .i64], [(0, 1), (1, 1)], 0, 24, false⟩ := TyOk.mkAgg (by kernel_rfl) rfl (by kernel_rfl) (show Try.prog.underlying 112 = some (.struct _) from Try.underlying112) (by kernel_rfl) (by kernel_rfl) (fun h => by cases h)
theorem eq_113 : EqFact Try.prog 113 [.s, .i .i64] := by
  refine ⟨by kernel_rfl, fun w a b ha hb => ?_⟩
  match a, ha, b, hb with
  | [.s x0, .i x1], _, [.s y0, .i y1], _ =>
    have u3 := Try.underlying3
    have a3 := Try.isAgg3
    have z3 := Try.sizeOf3
    have u9 := Try.underlying9
    have a9 := Try.isAgg9
    have z9 := Try.sizeOf9
    have hS : Try.prog.underlying 113 = some (.struct (Try.prog.fieldsOf 113)) := by kernel_rfl
    have hp : Try.prog.stoodInHeld 113 = false := by kernel_rfl
    simp only [valsOf, valOf]
    rw [show (10000 : Nat) = 9999 + 1 from rfl, run_equalIn_agg w 9999 113 _ _ hS hp]
    simp only [Program.fieldsOf, Try.underlying113, eqDs, eqD]
    go_simp
    by_cases h0 : x0.toList = y0.toList
    ·
      by_cases h1 : x1 = y1
      · simp [h0, h1]
      · simp [h0, h1]
    · simp [h0]
theorem ty_113 : TyOk Try.prog T 113 ⟨true, [.s, .i .i64], [(0, 1), (1, 1)], 0, 24, true⟩ := TyOk.mkAgg (by kernel_rfl) rfl (by kernel_rfl) (show Try.prog.underlying 113 = some (.struct _) from Try.underlying113) (by kernel_rfl) (by kernel_rfl) (fun _ => eq_113)
theorem ty_122 : TyOk Try.prog T 122 ⟨true, [.l 5, .i .i64, .i .i64], [(0, 1), (1, 1), (2, 1)], 0, 40, false⟩ := TyOk.mkAgg (by kernel_rfl) rfl (by kernel_rfl) (show Try.prog.underlying 122 = some (.struct _) from Try.underlying122) (by kernel_rfl) (by kernel_rfl) (fun h => by cases h)
theorem ty_123 : TyOk Try.prog T 123 ⟨true, [.l 5, .i .i64, .i .i64], [(0, 1), (1, 1), (2, 1)], 0, 40, false⟩ := TyOk.mkAgg (by kernel_rfl) rfl (by kernel_rfl) (show Try.prog.underlying 123 = some (.struct _) from Try.underlying123) (by kernel_rfl) (by kernel_rfl) (fun h => by cases h)
theorem ty_139 : TyOk Try.prog T 139 ⟨false, [.l 142], [], 0, 24, false⟩ := TyOk.mkOne (c := .l 142) Try.underlying139 rfl (by kernel_rfl) rfl rfl (by kernel_rfl)
theorem ty_140 : TyOk Try.prog T 140 ⟨false, [.l 218], [], 0, 24, false⟩ := TyOk.mkOne (c := .l 218) Try.underlying140 rfl (by kernel_rfl) rfl rfl (by kernel_rfl)
theorem ty_141 : TyOk Try.prog T 141 ⟨true, [.i .i64, .i .i64, .i .i64, .s, .l 142, .l 9, .l 218], [(0, 1), (1, 1), (2, 1), (3, 1), (4, 1), (5, 1), (6, 1)], 0, 112, false⟩ := TyOk.mkAgg (by kernel_rfl) rfl (by kernel_rfl) (show Try.prog.underlying 141 = some (.struct _) from Try.underlying141) (by kernel_rfl) (by kernel_rfl) (fun h => by cases h)
theorem ty_142 : TyOk Try.prog T 142 ⟨true, [.i .i64, .i .i64, .i .i64, .s, .l 142, .l 9, .l 218], [(0, 1), (1, 1), (2, 1), (3, 1), (4, 1), (5, 1), (6, 1)], 0, 112, false⟩ := TyOk.mkAgg (by kernel_rfl) rfl (by kernel_rfl) (show Try.prog.underlying 142 = some (.struct _) from Try.underlying142) (by kernel_rfl) (by kernel_rfl) (fun h => by cases h)
theorem ty_143 : TyOk Try.prog T 143 ⟨true, [.i .i64, .i .i64, .i .i64, .l 3, .i .i64, .i .i64, .i .i64, .s, .l 142, .l 9, .l 218, .b], [(0, 1), (1, 1), (2, 1), (3, 1), (4, 7), (11, 1)], 0, 168, false⟩ := TyOk.mkAgg (by kernel_rfl) rfl (by kernel_rfl) (show Try.prog.underlying 143 = some (.struct _) from Try.underlying143) (by kernel_rfl) (by kernel_rfl) (fun h => by cases h)
theorem ty_144 : TyOk Try.prog T 144 ⟨true, [.i .i64, .i .i64, .i .i64, .l 3, .i .i64, .i .i64, .i .i64, .s, .l 142, .l 9, .l 218, .b], [(0, 1), (1, 1), (2, 1), (3, 1), (4, 7), (11, 1)], 0, 168, false⟩ := TyOk.mkAgg (by kernel_rfl) rfl (by kernel_rfl) (show Try.prog.underlying 144 = some (.struct _) from Try.underlying144) (by kernel_rfl) (by kernel_rfl) (fun h => by cases h)
theorem ty_145 : TyOk Try.prog T 145 ⟨true, [.i .i64, .i .i64, .i .i64, .s, .s, .i .i64], [(0, 1), (1, 1), (2, 1), (3, 1), (4, 1), (5, 1)], 0, 64, false⟩ := TyOk.mkAgg (by kernel_rfl) rfl (by kernel_rfl) (show Try.prog.underlying 145 = some (.struct _) from Try.underlying145) (by kernel_rfl) (by kernel_rfl) (fun h => by cases h)
theorem eq_146 : EqFact Try.prog 146 [.i .i64, .i .i64, .i .i64, .s, .s, .i .i64] := by
  refine ⟨by kernel_rfl, fun w a b ha hb => ?_⟩
  match a, ha, b, hb with
  | [.i x0, .i x1, .i x2, .s x3, .s x4, .i x5], _, [.i y0, .i y1, .i y2, .s y3, .s y4, .i y5], _ =>
    have u3 := Try.underlying3
    have a3 := Try.isAgg3
    have z3 := Try.sizeOf3
    have u9 := Try.underlying9
    have a9 := Try.isAgg9
    have z9 := Try.sizeOf9
    have hS : Try.prog.underlying 146 = some (.struct (Try.prog.fieldsOf 146)) := by kernel_rfl
    have hp : Try.prog.stoodInHeld 146 = false := by kernel_rfl
    simp only [valsOf, valOf]
    rw [show (10000 : Nat) = 9999 + 1 from rfl, run_equalIn_agg w 9999 146 _ _ hS hp]
    simp only [Program.fieldsOf, Try.underlying146, eqDs, eqD]
    go_simp
    by_cases h0 : x0 = y0
    ·
      by_cases h1 : x1 = y1
      ·
        by_cases h2 : x2 = y2
        ·
          by_cases h3 : x3.toList = y3.toList
          ·
            by_cases h4 : x4.toList = y4.toList
            ·
              by_cases h5 : x5 = y5
              · simp [h0, h1, h2, h3, h4, h5]
              · simp [h0, h1, h2, h3, h4, h5]
            · simp [h0, h1, h2, h3, h4]
          · simp [h0, h1, h2, h3]
        · simp [h0, h1, h2]
      · simp [h0, h1]
    · simp [h0]
theorem ty_146 : TyOk Try.prog T 146 ⟨true, [.i .i64, .i .i64, .i .i64, .s, .s, .i .i64], [(0, 1), (1, 1), (2, 1), (3, 1), (4, 1), (5, 1)], 0, 64, true⟩ := TyOk.mkAgg (by kernel_rfl) rfl (by kernel_rfl) (show Try.prog.underlying 146 = some (.struct _) from Try.underlying146) (by kernel_rfl) (by kernel_rfl) (fun _ => eq_146)
theorem ty_158 : TyOk Try.prog T 158 ⟨false, [.l 214], [], 0, 24, false⟩ := TyOk.mkOne (c := .l 214) Try.underlying158 rfl (by kernel_rfl) rfl rfl (by kernel_rfl)
theorem ty_159 : TyOk Try.prog T 159 ⟨true, [.i .i64, .l 214, .l 214], [(0, 1), (1, 1), (2, 1)], 0, 56, false⟩ := TyOk.mkAgg (by kernel_rfl) rfl (by kernel_rfl) (show Try.prog.underlying 159 = some (.struct _) from Try.underlying159) (by kernel_rfl) (by kernel_rfl) (fun h => by cases h)
theorem ty_160 : TyOk Try.prog T 160 ⟨true, [.i .i64, .l 214, .l 214], [(0, 1), (1, 1), (2, 1)], 0, 56, false⟩ := TyOk.mkAgg (by kernel_rfl) rfl (by kernel_rfl) (show Try.prog.underlying 160 = some (.struct _) from Try.underlying160) (by kernel_rfl) (by kernel_rfl) (fun h => by cases h)
theorem ty_170 : TyOk Try.prog T 170 ⟨false, [.l 192], [], 0, 24, false⟩ := TyOk.mkOne (c := .l 192) Try.underlying170 rfl (by kernel_rfl) rfl rfl (by kernel_rfl)
theorem ty_171 : TyOk Try.prog T 171 ⟨true, [.l 3, .l 192], [(0, 1), (1, 1)], 0, 48, false⟩ := TyOk.mkAgg (by kernel_rfl) rfl (by kernel_rfl) (show Try.prog.underlying 171 = some (.struct _) from Try.underlying171) (by kernel_rfl) (by kernel_rfl) (fun h => by cases h)
theorem ty_172 : TyOk Try.prog T 172 ⟨true, [.l 3, .l 192], [(0, 1), (1, 1)], 0, 48, false⟩ := TyOk.mkAgg (by kernel_rfl) rfl (by kernel_rfl) (show Try.prog.underlying 172 = some (.struct _) from Try.underlying172) (by kernel_rfl) (by kernel_rfl) (fun h => by cases h)
theorem ty_175 : TyOk Try.prog T 175 ⟨true, [.i .i64, .i .i64, .i .i64, .s, .i .i64, .i .i64, .i .i64, .s, .l 142, .l 9, .l 218], [(0, 1), (1, 1), (2, 1), (3, 1), (4, 7)], 0, 152, false⟩ := TyOk.mkAgg (by kernel_rfl) rfl (by kernel_rfl) (show Try.prog.underlying 175 = some (.struct _) from Try.underlying175) (by kernel_rfl) (by kernel_rfl) (fun h => by cases h)
theorem ty_176 : TyOk Try.prog T 176 ⟨true, [.i .i64, .i .i64, .i .i64, .s, .i .i64, .i .i64, .i .i64, .s, .l 142, .l 9, .l 218], [(0, 1), (1, 1), (2, 1), (3, 1), (4, 7)], 0, 152, false⟩ := TyOk.mkAgg (by kernel_rfl) rfl (by kernel_rfl) (show Try.prog.underlying 176 = some (.struct _) from Try.underlying176) (by kernel_rfl) (by kernel_rfl) (fun h => by cases h)
theorem eq_181 : EqFact Try.prog 181 [.i .i64, .i .i64, .i .i64, .s, .s, .i .i64] := by
  refine ⟨by kernel_rfl, fun w a b ha hb => ?_⟩
  match a, ha, b, hb with
  | [.i x0, .i x1, .i x2, .s x3, .s x4, .i x5], _, [.i y0, .i y1, .i y2, .s y3, .s y4, .i y5], _ =>
    have u3 := Try.underlying3
    have a3 := Try.isAgg3
    have z3 := Try.sizeOf3
    have u9 := Try.underlying9
    have a9 := Try.isAgg9
    have z9 := Try.sizeOf9
    have hS : Try.prog.underlying 181 = some (.struct (Try.prog.fieldsOf 181)) := by kernel_rfl
    have hp : Try.prog.stoodInHeld 181 = false := by kernel_rfl
    simp only [valsOf, valOf]
    rw [show (10000 : Nat) = 9999 + 1 from rfl, run_equalIn_agg w 9999 181 _ _ hS hp]
    simp only [Program.fieldsOf, Try.underlying181, eqDs, eqD]
    go_simp
    by_cases h0 : x0 = y0
    ·
      by_cases h1 : x1 = y1
      ·
        by_cases h2 : x2 = y2
        ·
          by_cases h3 : x3.toList = y3.toList
          ·
            by_cases h4 : x4.toList = y4.toList
            ·
              by_cases h5 : x5 = y5
              · simp [h0, h1, h2, h3, h4, h5]
              · simp [h0, h1, h2, h3, h4, h5]
            · simp [h0, h1, h2, h3, h4]
          · simp [h0, h1, h2, h3]
        · simp [h0, h1, h2]
      · simp [h0, h1]
    · simp [h0]
theorem ty_181 : TyOk Try.prog T 181 ⟨true, [.i .i64, .i .i64, .i .i64, .s, .s, .i .i64], [(0, 1), (1, 1), (2, 1), (3, 1), (4, 1), (5, 1)], 0, 64, true⟩ := TyOk.mkAgg (by kernel_rfl) rfl (by kernel_rfl) (show Try.prog.underlying 181 = some (.struct _) from Try.underlying181) (by kernel_rfl) (by kernel_rfl) (fun _ => eq_181)
theorem eq_183 : EqFact Try.prog 183 [.s, .i .i64] := by
  refine ⟨by kernel_rfl, fun w a b ha hb => ?_⟩
  match a, ha, b, hb with
  | [.s x0, .i x1], _, [.s y0, .i y1], _ =>
    have u3 := Try.underlying3
    have a3 := Try.isAgg3
    have z3 := Try.sizeOf3
    have u9 := Try.underlying9
    have a9 := Try.isAgg9
    have z9 := Try.sizeOf9
    have hS : Try.prog.underlying 183 = some (.struct (Try.prog.fieldsOf 183)) := by kernel_rfl
    have hp : Try.prog.stoodInHeld 183 = false := by kernel_rfl
    simp only [valsOf, valOf]
    rw [show (10000 : Nat) = 9999 + 1 from rfl, run_equalIn_agg w 9999 183 _ _ hS hp]
    simp only [Program.fieldsOf, Try.underlying183, eqDs, eqD]
    go_simp
    by_cases h0 : x0.toList = y0.toList
    ·
      by_cases h1 : x1 = y1
      · simp [h0, h1]
      · simp [h0, h1]
    · simp [h0]
theorem ty_183 : TyOk Try.prog T 183 ⟨true, [.s, .i .i64], [(0, 1), (1, 1)], 0, 24, true⟩ := TyOk.mkAgg (by kernel_rfl) rfl (by kernel_rfl) (show Try.prog.underlying 183 = some (.struct _) from Try.underlying183) (by kernel_rfl) (by kernel_rfl) (fun _ => eq_183)
theorem ty_191 : TyOk Try.prog T 191 ⟨true, [.i .i64, .i .i64], [(0, 1), (1, 1)], 0, 16, false⟩ := TyOk.mkAgg (by kernel_rfl) rfl (by kernel_rfl) (show Try.prog.underlying 191 = some (.struct _) from Try.underlying191) (by kernel_rfl) (by kernel_rfl) (fun h => by cases h)
theorem eq_192 : EqFact Try.prog 192 [.i .i64, .i .i64] := by
  refine ⟨by kernel_rfl, fun w a b ha hb => ?_⟩
  match a, ha, b, hb with
  | [.i x0, .i x1], _, [.i y0, .i y1], _ =>
    have u3 := Try.underlying3
    have a3 := Try.isAgg3
    have z3 := Try.sizeOf3
    have hS : Try.prog.underlying 192 = some (.struct (Try.prog.fieldsOf 192)) := by kernel_rfl
    have hp : Try.prog.stoodInHeld 192 = false := by kernel_rfl
    simp only [valsOf, valOf]
    rw [show (10000 : Nat) = 9999 + 1 from rfl, run_equalIn_agg w 9999 192 _ _ hS hp]
    simp only [Program.fieldsOf, Try.underlying192, eqDs, eqD]
    go_simp
    by_cases h0 : x0 = y0
    ·
      by_cases h1 : x1 = y1
      · simp [h0, h1]
      · simp [h0, h1]
    · simp [h0]
theorem ty_192 : TyOk Try.prog T 192 ⟨true, [.i .i64, .i .i64], [(0, 1), (1, 1)], 0, 16, true⟩ := TyOk.mkAgg (by kernel_rfl) rfl (by kernel_rfl) (show Try.prog.underlying 192 = some (.struct _) from Try.underlying192) (by kernel_rfl) (by kernel_rfl) (fun _ => eq_192)
theorem ty_203 : TyOk Try.prog T 203 ⟨false, [.i .u64], [], 0, 8, false⟩ := TyOk.mkOne (c := .i .u64) Try.underlying203 rfl (by kernel_rfl) rfl rfl (by kernel_rfl)
theorem ty_213 : TyOk Try.prog T 213 ⟨true, [.i .i64, .i .i64, .i .i64, .i .i64, .i .i64, .s, .s, .i .i64], [(0, 1), (1, 1), (2, 6)], 0, 80, false⟩ := TyOk.mkAgg (by kernel_rfl) rfl (by kernel_rfl) (show Try.prog.underlying 213 = some (.struct _) from Try.underlying213) (by kernel_rfl) (by kernel_rfl) (fun h => by cases h)
theorem ty_214 : TyOk Try.prog T 214 ⟨true, [.i .i64, .i .i64, .i .i64, .i .i64, .i .i64, .s, .s, .i .i64], [(0, 1), (1, 1), (2, 6)], 0, 80, false⟩ := TyOk.mkAgg (by kernel_rfl) rfl (by kernel_rfl) (show Try.prog.underlying 214 = some (.struct _) from Try.underlying214) (by kernel_rfl) (by kernel_rfl) (fun h => by cases h)
theorem ty_216 : TyOk Try.prog T 216 ⟨false, [.l 228], [], 0, 24, false⟩ := TyOk.mkOne (c := .l 228) Try.underlying216 rfl (by kernel_rfl) rfl rfl (by kernel_rfl)
theorem ty_217 : TyOk Try.prog T 217 ⟨true, [.l 3, .l 228], [(0, 1), (1, 1)], 0, 48, false⟩ := TyOk.mkAgg (by kernel_rfl) rfl (by kernel_rfl) (show Try.prog.underlying 217 = some (.struct _) from Try.underlying217) (by kernel_rfl) (by kernel_rfl) (fun h => by cases h)
theorem ty_218 : TyOk Try.prog T 218 ⟨true, [.l 3, .l 228], [(0, 1), (1, 1)], 0, 48, false⟩ := TyOk.mkAgg (by kernel_rfl) rfl (by kernel_rfl) (show Try.prog.underlying 218 = some (.struct _) from Try.underlying218) (by kernel_rfl) (by kernel_rfl) (fun h => by cases h)
theorem eq_228 : EqFact Try.prog 228 [.i .i64, .i .i64] := by
  refine ⟨by kernel_rfl, fun w a b ha hb => ?_⟩
  match a, ha, b, hb with
  | [.i x0, .i x1], _, [.i y0, .i y1], _ =>
    have u3 := Try.underlying3
    have a3 := Try.isAgg3
    have z3 := Try.sizeOf3
    have hS : Try.prog.underlying 228 = some (.struct (Try.prog.fieldsOf 228)) := by kernel_rfl
    have hp : Try.prog.stoodInHeld 228 = false := by kernel_rfl
    simp only [valsOf, valOf]
    rw [show (10000 : Nat) = 9999 + 1 from rfl, run_equalIn_agg w 9999 228 _ _ hS hp]
    simp only [Program.fieldsOf, Try.underlying228, eqDs, eqD]
    go_simp
    by_cases h0 : x0 = y0
    ·
      by_cases h1 : x1 = y1
      · simp [h0, h1]
      · simp [h0, h1]
    · simp [h0]
theorem ty_228 : TyOk Try.prog T 228 ⟨true, [.i .i64, .i .i64], [(0, 1), (1, 1)], 0, 16, true⟩ := TyOk.mkAgg (by kernel_rfl) rfl (by kernel_rfl) (show Try.prog.underlying 228 = some (.struct _) from Try.underlying228) (by kernel_rfl) (by kernel_rfl) (fun _ => eq_228)
theorem ty_237 : TyOk Try.prog T 237 ⟨false, [.i .u32], [], 0, 4, false⟩ := TyOk.mkOne (c := .i .u32) Try.underlying237 rfl (by kernel_rfl) rfl rfl (by kernel_rfl)
theorem ty_238 : TyOk Try.prog T 238 ⟨false, [.i .u8], [], 0, 1, false⟩ := TyOk.mkOne (c := .i .u8) Try.underlying238 rfl (by kernel_rfl) rfl rfl (by kernel_rfl)
theorem ty_239 : TyOk Try.prog T 239 ⟨false, [.i .u8], [], 0, 1, false⟩ := TyOk.mkOne (c := .i .u8) Try.underlying239 rfl (by kernel_rfl) rfl rfl (by kernel_rfl)
theorem ty_242 : TyOk Try.prog T 242 ⟨false, [.i .i32], [], 0, 4, false⟩ := TyOk.mkOne (c := .i .i32) Try.underlying242 rfl (by kernel_rfl) rfl rfl (by kernel_rfl)
theorem ty_243 : TyOk Try.prog T 243 ⟨false, [.i .i32], [], 0, 4, false⟩ := TyOk.mkOne (c := .i .i32) Try.underlying243 rfl (by kernel_rfl) rfl rfl (by kernel_rfl)
theorem ty_246 : TyOk Try.prog T 246 ⟨true, [.i .i64, .i .i64, .i .i64, .l 3, .i .i64, .i .i64, .i .i64, .i .i64, .i .i64, .s, .s, .i .i64, .s, .s, .i .i64, .i .i64, .l 78], [(0, 1), (1, 1), (2, 1), (3, 1), (4, 8), (12, 1), (13, 1), (14, 1), (15, 1), (16, 1)], 0, 200, false⟩ := TyOk.mkAgg (by kernel_rfl) rfl (by kernel_rfl) (show Try.prog.underlying 246 = some (.struct _) from Try.underlying246) (by kernel_rfl) (by kernel_rfl) (fun h => by cases h)
theorem ty_247 : TyOk Try.prog T 247 ⟨true, [.i .i64, .i .i64, .i .i64, .l 3, .i .i64, .i .i64, .i .i64, .i .i64, .i .i64, .s, .s, .i .i64, .s, .s, .i .i64, .i .i64, .l 78], [(0, 1), (1, 1), (2, 1), (3, 1), (4, 8), (12, 1), (13, 1), (14, 1), (15, 1), (16, 1)], 0, 200, false⟩ := TyOk.mkAgg (by kernel_rfl) rfl (by kernel_rfl) (show Try.prog.underlying 247 = some (.struct _) from Try.underlying247) (by kernel_rfl) (by kernel_rfl) (fun h => by cases h)
theorem tabT : TabOk Try.prog T := tabOk fun p hp => by
  simp only [tab, List.mem_cons, List.not_mem_nil, or_false] at hp
  rcases hp with rfl | rfl | rfl | rfl | rfl | rfl | rfl | rfl | rfl | rfl | rfl | rfl | rfl | rfl | rfl | rfl | rfl | rfl | rfl | rfl | rfl | rfl | rfl | rfl | rfl | rfl | rfl | rfl | rfl | rfl | rfl | rfl | rfl | rfl | rfl | rfl | rfl | rfl | rfl | rfl | rfl | rfl | rfl | rfl | rfl | rfl | rfl | rfl | rfl | rfl | rfl | rfl | rfl | rfl | rfl | rfl | rfl | rfl | rfl | rfl | rfl | rfl | rfl | rfl | rfl | rfl | rfl | rfl | rfl | rfl | rfl | rfl | rfl | rfl | rfl | rfl | rfl | rfl | rfl | rfl | rfl | rfl | rfl | rfl | rfl | rfl | rfl | rfl | rfl | rfl | rfl | rfl | rfl | rfl | rfl | rfl | rfl
  · exact ty_2
  · exact ty_3
  · exact ty_4
  · exact ty_5
  · exact ty_6
  · exact ty_7
  · exact ty_8
  · exact ty_9
  · exact ty_10
  · exact ty_11
  · exact ty_12
  · exact ty_13
  · exact ty_14
  · exact ty_21
  · exact ty_22
  · exact ty_24
  · exact ty_30
  · exact ty_31
  · exact ty_32
  · exact ty_33
  · exact ty_38
  · exact ty_39
  · exact ty_40
  · exact ty_41
  · exact ty_42
  · exact ty_43
  · exact ty_44
  · exact ty_45
  · exact ty_46
  · exact ty_49
  · exact ty_50
  · exact ty_51
  · exact ty_52
  · exact ty_53
  · exact ty_54
  · exact ty_55
  · exact ty_56
  · exact ty_57
  · exact ty_60
  · exact ty_61
  · exact ty_62
  · exact ty_63
  · exact ty_64
  · exact ty_72
  · exact ty_73
  · exact ty_74
  · exact ty_75
  · exact ty_76
  · exact ty_77
  · exact ty_78
  · exact ty_84
  · exact ty_85
  · exact ty_86
  · exact ty_93
  · exact ty_94
  · exact ty_95
  · exact ty_103
  · exact ty_104
  · exact ty_105
  · exact ty_112
  · exact ty_113
  · exact ty_122
  · exact ty_123
  · exact ty_139
  · exact ty_140
  · exact ty_141
  · exact ty_142
  · exact ty_143
  · exact ty_144
  · exact ty_145
  · exact ty_146
  · exact ty_158
  · exact ty_159
  · exact ty_160
  · exact ty_170
  · exact ty_171
  · exact ty_172
  · exact ty_175
  · exact ty_176
  · exact ty_181
  · exact ty_183
  · exact ty_191
  · exact ty_192
  · exact ty_203
  · exact ty_213
  · exact ty_214
  · exact ty_216
  · exact ty_217
  · exact ty_218
  · exact ty_228
  · exact ty_237
  · exact ty_238
  · exact ty_239
  · exact ty_242
  · exact ty_243
  · exact ty_246
  · exact ty_247
theorem mixed : Try.prog.follows .mixedOrders = true := by kernel_rfl
end Go.Proofs.Ytijnlnmoellbaaa.Ab
