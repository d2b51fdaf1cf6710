/- The table of the types whose values are data: printed by a program from the types as the model has them. -/
import Derived.Test.YtijnlnmoellbaaaGreatAb18
import Derived.Test.YtijnlnmoellbaaaGreatFrame
import Derived.Laws.StructEq
namespace Go.Proofs.YtijnlnmoellbaaaGreat.Ab
open Go.RowKit
set_option linter.unusedVariables false
set_option maxRecDepth 100000
def tab : List (TypeId × Ty) := [
  (2, ⟨false, [.i .i64], [], 0, 8, false⟩),
  (3, ⟨false, [.i .i64], [], 0, 8, false⟩),
  (4, ⟨false, [.b], [], 0, 1, false⟩),
  (5, ⟨false, [.i .u8], [], 0, 1, false⟩),
  (6, ⟨false, [.i .u8], [], 0, 1, false⟩),
  (7, ⟨true, [.i .i64, .i .i64, .b, .i .u8], [(0, 1), (1, 1), (2, 1), (3, 1)], 0, 24, false⟩),
  (8, ⟨true, [.i .i64, .i .i64, .b, .i .u8], [(0, 1), (1, 1), (2, 1), (3, 1)], 0, 24, false⟩),
  (9, ⟨false, [.s], [], 0, 16, false⟩),
  (10, ⟨false, [.s], [], 0, 16, false⟩),
  (11, ⟨false, [.s], [], 0, 16, false⟩),
  (12, ⟨false, [.i .u64], [], 0, 8, false⟩),
  (13, ⟨true, [.s, .i .u64], [(0, 1), (1, 1)], 0, 24, false⟩),
  (14, ⟨true, [.s, .i .u64], [(0, 1), (1, 1)], 0, 24, false⟩),
  (21, ⟨false, [.i .i32], [], 0, 4, false⟩),
  (22, ⟨false, [.l 176], [], 0, 24, false⟩),
  (23, ⟨true, [.l 176], [(0, 1)], 0, 24, false⟩),
  (24, ⟨true, [.l 176], [(0, 1)], 0, 24, false⟩),
  (25, ⟨false, [.l 178], [], 0, 24, false⟩),
  (26, ⟨true, [.i .i64, .i .i64, .l 178], [(0, 1), (1, 1), (2, 1)], 0, 40, false⟩),
  (27, ⟨true, [.i .i64, .i .i64, .l 178], [(0, 1), (1, 1), (2, 1)], 0, 40, false⟩),
  (28, ⟨false, [.l 139], [], 0, 24, false⟩),
  (29, ⟨false, [.l 146], [], 0, 24, false⟩),
  (30, ⟨true, [.l 176, .i .i64, .i .i64, .l 178, .l 139, .l 146, .i .i64, .i .i64, .i .i64], [(0, 1), (1, 3), (4, 1), (5, 1), (6, 1), (7, 1), (8, 1)], 0, 136, false⟩),
  (31, ⟨true, [.l 176, .i .i64, .i .i64, .l 178, .l 139, .l 146, .i .i64, .i .i64, .i .i64], [(0, 1), (1, 3), (4, 1), (5, 1), (6, 1), (7, 1), (8, 1)], 0, 136, false⟩),
  (32, ⟨false, [.l 150], [], 0, 24, false⟩),
  (33, ⟨true, [.l 176, .l 150, .i .i64], [(0, 1), (1, 1), (2, 1)], 0, 56, false⟩),
  (34, ⟨true, [.l 176, .l 150, .i .i64], [(0, 1), (1, 1), (2, 1)], 0, 56, false⟩),
  (35, ⟨true, [.l 176, .i .i64, .i .i64, .l 178, .l 139, .l 146, .i .i64, .i .i64, .i .i64, .l 176, .l 150, .i .i64], [(0, 9), (9, 3)], 0, 192, false⟩),
  (36, ⟨true, [.l 176, .i .i64, .i .i64, .l 178, .l 139, .l 146, .i .i64, .i .i64, .i .i64, .l 176, .l 150, .i .i64], [(0, 9), (9, 3)], 0, 192, false⟩),
  (39, ⟨false, [.l 90], [], 0, 24, false⟩),
  (40, ⟨true, [.l 90], [(0, 1)], 0, 24, false⟩),
  (41, ⟨true, [.l 90], [(0, 1)], 0, 24, false⟩),
  (42, ⟨false, [.l 116], [], 0, 24, false⟩),
  (43, ⟨true, [.i .i64, .i .i64, .l 116], [(0, 1), (1, 1), (2, 1)], 0, 40, false⟩),
  (44, ⟨true, [.i .i64, .i .i64, .l 116], [(0, 1), (1, 1), (2, 1)], 0, 40, false⟩),
  (45, ⟨false, [.l 153], [], 0, 24, false⟩),
  (46, ⟨false, [.l 105], [], 0, 24, false⟩),
  (47, ⟨true, [.l 90, .i .i64, .i .i64, .l 116, .l 153, .l 105, .i .i64, .i .i64, .i .i64], [(0, 1), (1, 3), (4, 1), (5, 1), (6, 1), (7, 1), (8, 1)], 0, 136, false⟩),
  (48, ⟨true, [.l 90, .i .i64, .i .i64, .l 116, .l 153, .l 105, .i .i64, .i .i64, .i .i64], [(0, 1), (1, 3), (4, 1), (5, 1), (6, 1), (7, 1), (8, 1)], 0, 136, false⟩),
  (49, ⟨false, [.l 83], [], 0, 24, false⟩),
  (50, ⟨true, [.l 90, .l 83, .i .i64], [(0, 1), (1, 1), (2, 1)], 0, 56, false⟩),
  (51, ⟨true, [.l 90, .l 83, .i .i64], [(0, 1), (1, 1), (2, 1)], 0, 56, false⟩),
  (52, ⟨true, [.l 90, .i .i64, .i .i64, .l 116, .l 153, .l 105, .i .i64, .i .i64, .i .i64, .l 90, .l 83, .i .i64], [(0, 9), (9, 3)], 0, 192, false⟩),
  (53, ⟨true, [.l 90, .i .i64, .i .i64, .l 116, .l 153, .l 105, .i .i64, .i .i64, .i .i64, .l 90, .l 83, .i .i64], [(0, 9), (9, 3)], 0, 192, false⟩),
  (56, ⟨false, [.l 5], [], 0, 24, false⟩),
  (58, ⟨false, [.l 118], [], 0, 24, false⟩),
  (82, ⟨true, [.i .i64, .l 118, .l 118], [(0, 1), (1, 1), (2, 1)], 0, 56, false⟩),
  (83, ⟨true, [.i .i64, .l 118, .l 118], [(0, 1), (1, 1), (2, 1)], 0, 56, false⟩),
  (89, ⟨true, [.i .i64, .i .i64, .i .i64, .s, .s, .i .i64], [(0, 1), (1, 1), (2, 1), (3, 1), (4, 1), (5, 1)], 0, 64, false⟩),
  (90, ⟨true, [.i .i64, .i .i64, .i .i64, .s, .s, .i .i64], [(0, 1), (1, 1), (2, 1), (3, 1), (4, 1), (5, 1)], 0, 64, true⟩),
  (98, ⟨false, [.l 3], [], 0, 24, false⟩),
  (99, ⟨false, [.l 103], [], 0, 24, false⟩),
  (100, ⟨false, [.l 9], [], 0, 24, false⟩),
  (101, ⟨false, [.l 189], [], 0, 24, false⟩),
  (102, ⟨true, [.i .i64, .i .i64, .i .i64, .s, .l 103, .l 9, .l 189], [(0, 1), (1, 1), (2, 1), (3, 1), (4, 1), (5, 1), (6, 1)], 0, 112, false⟩),
  (103, ⟨true, [.i .i64, .i .i64, .i .i64, .s, .l 103, .l 9, .l 189], [(0, 1), (1, 1), (2, 1), (3, 1), (4, 1), (5, 1), (6, 1)], 0, 112, false⟩),
  (104, ⟨true, [.i .i64, .i .i64, .i .i64, .l 3, .i .i64, .i .i64, .i .i64, .s, .l 103, .l 9, .l 189, .b], [(0, 1), (1, 1), (2, 1), (3, 1), (4, 7), (11, 1)], 0, 168, false⟩),
  (105, ⟨true, [.i .i64, .i .i64, .i .i64, .l 3, .i .i64, .i .i64, .i .i64, .s, .l 103, .l 9, .l 189, .b], [(0, 1), (1, 1), (2, 1), (3, 1), (4, 7), (11, 1)], 0, 168, false⟩),
  (115, ⟨true, [.s, .i .i64], [(0, 1), (1, 1)], 0, 24, false⟩),
  (116, ⟨true, [.s, .i .i64], [(0, 1), (1, 1)], 0, 24, true⟩),
  (117, ⟨true, [.i .i64, .i .i64, .i .i64, .i .i64, .i .i64, .s, .s, .i .i64], [(0, 1), (1, 1), (2, 6)], 0, 80, false⟩),
  (118, ⟨true, [.i .i64, .i .i64, .i .i64, .i .i64, .i .i64, .s, .s, .i .i64], [(0, 1), (1, 1), (2, 6)], 0, 80, true⟩),
  (121, ⟨true, [.l 5, .i .i64, .i .i64], [(0, 1), (1, 1), (2, 1)], 0, 40, false⟩),
  (122, ⟨true, [.l 5, .i .i64, .i .i64], [(0, 1), (1, 1), (2, 1)], 0, 40, false⟩),
  (137, ⟨false, [.l 210], [], 0, 24, false⟩),
  (138, ⟨true, [.i .i64, .i .i64, .l 210], [(0, 1), (1, 1), (2, 1)], 0, 40, false⟩),
  (139, ⟨true, [.i .i64, .i .i64, .l 210], [(0, 1), (1, 1), (2, 1)], 0, 40, false⟩),
  (141, ⟨false, [.l 144], [], 0, 24, false⟩),
  (142, ⟨false, [.l 234], [], 0, 24, false⟩),
  (143, ⟨true, [.i .i64, .i .i64, .i .i64, .s, .l 144, .l 9, .l 234], [(0, 1), (1, 1), (2, 1), (3, 1), (4, 1), (5, 1), (6, 1)], 0, 112, false⟩),
  (144, ⟨true, [.i .i64, .i .i64, .i .i64, .s, .l 144, .l 9, .l 234], [(0, 1), (1, 1), (2, 1), (3, 1), (4, 1), (5, 1), (6, 1)], 0, 112, false⟩),
  (145, ⟨true, [.i .i64, .i .i64, .i .i64, .l 3, .i .i64, .i .i64, .i .i64, .s, .l 144, .l 9, .l 234, .b], [(0, 1), (1, 1), (2, 1), (3, 1), (4, 7), (11, 1)], 0, 168, false⟩),
  (146, ⟨true, [.i .i64, .i .i64, .i .i64, .l 3, .i .i64, .i .i64, .i .i64, .s, .l 144, .l 9, .l 234, .b], [(0, 1), (1, 1), (2, 1), (3, 1), (4, 7), (11, 1)], 0, 168, false⟩),
  (148, ⟨false, [.l 216], [], 0, 24, false⟩),
  (149, ⟨true, [.i .i64, .l 216, .l 216], [(0, 1), (1, 1), (2, 1)], 0, 56, false⟩),
  (150, ⟨true, [.i .i64, .l 216, .l 216], [(0, 1), (1, 1), (2, 1)], 0, 56, false⟩),
  (151, ⟨false, [.l 185], [], 0, 24, false⟩),
  (152, ⟨true, [.i .i64, .i .i64, .l 185], [(0, 1), (1, 1), (2, 1)], 0, 40, false⟩),
  (153, ⟨true, [.i .i64, .i .i64, .l 185], [(0, 1), (1, 1), (2, 1)], 0, 40, false⟩),
  (176, ⟨true, [.i .i64, .i .i64, .i .i64, .s, .s, .i .i64], [(0, 1), (1, 1), (2, 1), (3, 1), (4, 1), (5, 1)], 0, 64, true⟩),
  (178, ⟨true, [.s, .i .i64], [(0, 1), (1, 1)], 0, 24, true⟩),
  (184, ⟨true, [.i .i64, .i .i64, .i .i64, .s, .i .i64, .i .i64, .i .i64, .s, .l 103, .l 9, .l 189], [(0, 1), (1, 1), (2, 1), (3, 1), (4, 7)], 0, 152, false⟩),
  (185, ⟨true, [.i .i64, .i .i64, .i .i64, .s, .i .i64, .i .i64, .i .i64, .s, .l 103, .l 9, .l 189], [(0, 1), (1, 1), (2, 1), (3, 1), (4, 7)], 0, 152, false⟩),
  (187, ⟨false, [.l 198], [], 0, 24, false⟩),
  (188, ⟨true, [.l 3, .l 198], [(0, 1), (1, 1)], 0, 48, false⟩),
  (189, ⟨true, [.l 3, .l 198], [(0, 1), (1, 1)], 0, 48, false⟩),
  (197, ⟨true, [.i .i64, .i .i64], [(0, 1), (1, 1)], 0, 16, false⟩),
  (198, ⟨true, [.i .i64, .i .i64], [(0, 1), (1, 1)], 0, 16, true⟩),
  (202, ⟨false, [.i .u64], [], 0, 8, false⟩),
  (209, ⟨true, [.i .i64, .i .i64, .i .i64, .s, .i .i64, .i .i64, .i .i64, .s, .l 144, .l 9, .l 234], [(0, 1), (1, 1), (2, 1), (3, 1), (4, 7)], 0, 152, false⟩),
  (210, ⟨true, [.i .i64, .i .i64, .i .i64, .s, .i .i64, .i .i64, .i .i64, .s, .l 144, .l 9, .l 234], [(0, 1), (1, 1), (2, 1), (3, 1), (4, 7)], 0, 152, false⟩),
  (215, ⟨true, [.i .i64, .i .i64, .i .i64, .i .i64, .i .i64, .s, .s, .i .i64], [(0, 1), (1, 1), (2, 6)], 0, 80, false⟩),
  (216, ⟨true, [.i .i64, .i .i64, .i .i64, .i .i64, .i .i64, .s, .s, .i .i64], [(0, 1), (1, 1), (2, 6)], 0, 80, true⟩),
  (225, ⟨false, [.l 227], [], 0, 24, false⟩),
  (226, ⟨true, [.i .i64, .i .i64, .s, .l 227], [(0, 1), (1, 1), (2, 1), (3, 1)], 0, 56, false⟩),
  (227, ⟨true, [.i .i64, .i .i64, .s, .l 227], [(0, 1), (1, 1), (2, 1), (3, 1)], 0, 56, false⟩),
  (232, ⟨false, [.l 254], [], 0, 24, false⟩),
  (233, ⟨true, [.l 3, .l 254], [(0, 1), (1, 1)], 0, 48, false⟩),
  (234, ⟨true, [.l 3, .l 254], [(0, 1), (1, 1)], 0, 48, false⟩),
  (254, ⟨true, [.i .i64, .i .i64], [(0, 1), (1, 1)], 0, 16, true⟩),
  (263, ⟨false, [.i .u32], [], 0, 4, false⟩),
  (264, ⟨false, [.i .u8], [], 0, 1, false⟩),
  (265, ⟨false, [.i .u8], [], 0, 1, false⟩),
  (268, ⟨false, [.i .i32], [], 0, 4, false⟩),
  (269, ⟨false, [.i .i32], [], 0, 4, false⟩)]
abbrev T : Tab := tabOf tab
theorem ty_2 : TyOk Tryz.prog T 2 ⟨false, [.i .i64], [], 0, 8, false⟩ := TyOk.mkOne (c := .i .i64) Tryz.underlying2 rfl (by kernel_rfl) rfl rfl (by kernel_rfl)
theorem ty_3 : TyOk Tryz.prog T 3 ⟨false, [.i .i64], [], 0, 8, false⟩ := TyOk.mkOne (c := .i .i64) Tryz.underlying3 rfl (by kernel_rfl) rfl rfl (by kernel_rfl)
theorem ty_4 : TyOk Tryz.prog T 4 ⟨false, [.b], [], 0, 1, false⟩ := TyOk.mkOne (c := .b) Tryz.underlying4 rfl (by kernel_rfl) rfl rfl (by kernel_rfl)
theorem ty_5 : TyOk Tryz.prog T 5 ⟨false, [.i .u8], [], 0, 1, false⟩ := TyOk.mkOne (c := .i .u8) Tryz.underlying5 rfl (by kernel_rfl) rfl rfl (by kernel_rfl)
theorem ty_6 : TyOk Tryz.prog T 6 ⟨false, [.i .u8], [], 0, 1, false⟩ := TyOk.mkOne (c := .i .u8) Tryz.underlying6 rfl (by kernel_rfl) rfl rfl (by kernel_rfl)
theorem ty_7 : TyOk Tryz.prog T 7 ⟨true, [.i .i64, .i .i64, .b, .i .u8], [(0, 1), (1, 1), (2, 1), (3, 1)], 0, 24, false⟩ := TyOk.mkAgg (by kernel_rfl) rfl (by kernel_rfl) (show Tryz.prog.underlying 7 = some (.struct _) from Tryz.underlying7) (by kernel_rfl) (by kernel_rfl) (fun h => by cases h)
theorem ty_8 : TyOk Tryz.prog T 8 ⟨true, [.i .i64, .i .i64, .b, .i .u8], [(0, 1), (1, 1), (2, 1), (3, 1)], 0, 24, false⟩ := TyOk.mkAgg (by kernel_rfl) rfl (by kernel_rfl) (show Tryz.prog.underlying 8 = some (.struct _) from Tryz.underlying8) (by kernel_rfl) (by kernel_rfl) (fun h => by cases h)
theorem ty_9 : TyOk Tryz.prog T 9 ⟨false, [.s], [], 0, 16, false⟩ := TyOk.mkOne (c := .s) Tryz.underlying9 rfl (by kernel_rfl) rfl rfl (by kernel_rfl)
theorem ty_10 : TyOk Tryz.prog T 10 ⟨false, [.s], [], 0, 16, false⟩ := TyOk.mkOne (c := .s) Tryz.underlying10 rfl (by kernel_rfl) rfl rfl (by kernel_rfl)
theorem ty_11 : TyOk Tryz.prog T 11 ⟨false, [.s], [], 0, 16, false⟩ := TyOk.mkOne (c := .s) Tryz.underlying11 rfl (by kernel_rfl) rfl rfl (by kernel_rfl)
theorem ty_12 : TyOk Tryz.prog T 12 ⟨false, [.i .u64], [], 0, 8, false⟩ := TyOk.mkOne (c := .i .u64) Tryz.underlying12 rfl (by kernel_rfl) rfl rfl (by kernel_rfl)
theorem ty_13 : TyOk Tryz.prog T 13 ⟨true, [.s, .i .u64], [(0, 1), (1, 1)], 0, 24, false⟩ := TyOk.mkAgg (by kernel_rfl) rfl (by kernel_rfl) (show Tryz.prog.underlying 13 = some (.struct _) from Tryz.underlying13) (by kernel_rfl) (by kernel_rfl) (fun h => by cases h)
theorem ty_14 : TyOk Tryz.prog T 14 ⟨true, [.s, .i .u64], [(0, 1), (1, 1)], 0, 24, false⟩ := TyOk.mkAgg (by kernel_rfl) rfl (by kernel_rfl) (show Tryz.prog.underlying 14 = some (.struct _) from Tryz.underlying14) (by kernel_rfl) (by kernel_rfl) (fun h => by cases h)
theorem ty_21 : TyOk Tryz.prog T 21 ⟨false, [.i .i32], [], 0, 4, false⟩ := TyOk.mkOne (c := .i .i32) Tryz.underlying21 rfl (by kernel_rfl) rfl rfl (by kernel_rfl)
theorem ty_22 : TyOk Tryz.prog T 22 ⟨false, [.l 176], [], 0, 24, false⟩ := TyOk.mkOne (c := .l 176) Tryz.underlying22 rfl (by kernel_rfl) rfl rfl (by kernel_rfl)
theorem ty_23 : TyOk Tryz.prog T 23 ⟨true, [.l 176], [(0, 1)], 0, 24, false⟩ := TyOk.mkAgg (by kernel_rfl) rfl (by kernel_rfl) (show Tryz.prog.underlying 23 = some (.struct _) from Tryz.underlying23) (by kernel_rfl) (by kernel_rfl) (fun h => by cases h)
theorem ty_24 : TyOk Tryz.prog T 24 ⟨true, [.l 176], [(0, 1)], 0, 24, false⟩ := TyOk.mkAgg (by kernel_rfl) rfl (by kernel_rfl) (show Tryz.prog.underlying 24 = some (.struct _) from Tryz.underlying24) (by kernel_rfl) (by kernel_rfl) (fun h => by cases h)
theorem ty_25 : TyOk Tryz.prog T 25 ⟨false, [.l 178], [], 0, 24, false⟩ := TyOk.mkOne (c := .l 178) Tryz.underlying25 rfl (by kernel_rfl) rfl rfl (by kernel_rfl)
theorem ty_26 : TyOk Tryz.prog T 26 ⟨true, [.i .i64, .i .i64, .l 178], [(0, 1), (1, 1), (2, 1)], 0, 40, false⟩ := TyOk.mkAgg (by kernel_rfl) rfl (by kernel_rfl) (show Tryz.prog.underlying 26 = some (.struct _) from Tryz.underlying26) (by kernel_rfl) (by kernel_rfl) (fun h => by cases h)
theorem ty_27 : TyOk Tryz.prog T 27 ⟨true, [.i .i64, .i .i64, .l 178], [(0, 1), (1, 1), (2, 1)], 0, 40, false⟩ := TyOk.mkAgg (by kernel_rfl) rfl (by kernel_rfl) (show Tryz.prog.underlying 27 = some (.struct _) from Tryz.underlying27) (by kernel_rfl) (by kernel_rfl) (fun h => by cases h)
theorem ty_28 : TyOk Tryz.prog T 28 ⟨false, [.l 139], [], 0, 24, false⟩ := TyOk.mkOne (c := .l 139) Tryz.underlying28 rfl (by kernel_rfl) rfl rfl (by kernel_rfl)
theorem ty_29 : TyOk Tryz.prog T 29 ⟨false, [.l 146], [], 0, 24, false⟩ := TyOk.mkOne (c := .l 146) Tryz.underlying29 rfl (by kernel_rfl) rfl rfl (by kernel_rfl)
theorem ty_30 : TyOk Tryz.prog T 30 ⟨true, [.l 176, .i .i64, .i .i64, .l 178, .l 139, .l 146, .i .i64, .i .i64, .i .i64], [(0, 1), (1, 3), (4, 1), (5, 1), (6, 1), (7, 1), (8, 1)], 0, 136, false⟩ := TyOk.mkAgg (by kernel_rfl) rfl (by kernel_rfl) (show Tryz.prog.underlying 30 = some (.struct _) from Tryz.underlying30) (by kernel_rfl) (by kernel_rfl) (fun h => by cases h)
theorem ty_31 : TyOk Tryz.prog T 31 ⟨true, [.l 176, .i .i64, .i .i64, .l 178, .l 139, .l 146, .i .i64, .i .i64, .i .i64], [(0, 1), (1, 3), (4, 1), (5, 1), (6, 1), (7, 1), (8, 1)], 0, 136, false⟩ := TyOk.mkAgg (by kernel_rfl) rfl (by kernel_rfl) (show Tryz.prog.underlying 31 = some (.struct _) from Tryz.underlying31) (by kernel_rfl) (by kernel_rfl) (fun h => by cases h)
theorem ty_32 : TyOk Tryz.prog T 32 ⟨false, [.l 150], [], 0, 24, false⟩ := TyOk.mkOne (c := .l 150) Tryz.underlying32 rfl (by kernel_rfl) rfl rfl (by kernel_rfl)
theorem ty_33 : TyOk Tryz.prog T 33 ⟨true, [.l 176, .l 150, .i .i64], [(0, 1), (1, 1), (2, 1)], 0, 56, false⟩ := TyOk.mkAgg (by kernel_rfl) rfl (by kernel_rfl) (show Tryz.prog.underlying 33 = some (.struct _) from Tryz.underlying33) (by kernel_rfl) (by kernel_rfl) (fun h => by cases h)
theorem ty_34 : TyOk Tryz.prog T 34 ⟨true, [.l 176, .l 150, .i .i64], [(0, 1), (1, 1), (2, 1)], 0, 56, false⟩ := TyOk.mkAgg (by kernel_rfl) rfl (by kernel_rfl) (show Tryz.prog.underlying 34 = some (.struct _) from Tryz.underlying34) (by kernel_rfl) (by kernel_rfl) (fun h => by cases h)
theorem ty_35 : TyOk Tryz.prog T 35 ⟨true, [.l 176, .i .i64, .i .i64, .l 178, .l 139, .l 146, .i .i64, .i .i64, .i .i64, .l 176, .l 150, .i .i64], [(0, 9), (9, 3)], 0, 192, false⟩ := TyOk.mkAgg (by kernel_rfl) rfl (by kernel_rfl) (show Tryz.prog.underlying 35 = some (.struct _) from Tryz.underlying35) (by kernel_rfl) (by kernel_rfl) (fun h => by cases h)
theorem ty_36 : TyOk Tryz.prog T 36 ⟨true, [.l 176, .i .i64, .i .i64, .l 178, .l 139, .l 146, .i .i64, .i .i64, .i .i64, .l 176, .l 150, .i .i64], [(0, 9), (9, 3)], 0, 192, false⟩ := TyOk.mkAgg (by kernel_rfl) rfl (by kernel_rfl) (show Tryz.prog.underlying 36 = some (.struct _) from Tryz.underlying36) (by kernel_rfl) (by kernel_rfl) (fun h => by cases h)
theorem ty_39 : TyOk Tryz.prog T 39 ⟨false, [.l 90], [], 0, 24, false⟩ := TyOk.mkOne (c := .l 90) Tryz.underlying39 rfl (by kernel_rfl) rfl rfl (by kernel_rfl)
theorem ty_40 : TyOk Tryz.prog T 40 ⟨true, [.l 90], [(0, 1)], 0, 24, false⟩ := TyOk.mkAgg (by kernel_rfl) rfl (by kernel_rfl) (show Tryz.prog.underlying 40 = some (.struct _) from Tryz.underlying40) (by kernel_rfl) (by kernel_rfl) (fun h => by cases h)
theorem ty_41 : TyOk Tryz.prog T 41 ⟨true, [.l 90], [(0, 1)], 0, 24, false⟩ := TyOk.mkAgg (by kernel_rfl) rfl (by kernel_rfl) (show Tryz.prog.underlying 41 = some (.struct _) from Tryz.underlying41) (by kernel_rfl) (by kernel_rfl) (fun h => by cases h)
theorem ty_42 : TyOk Tryz.prog T 42 ⟨false, [.l 116], [], 0, 24, false⟩ := TyOk.mkOne (c := .l 116) Tryz.underlying42 rfl (by kernel_rfl) rfl rfl (by kernel_rfl)
theorem ty_43 : TyOk Tryz.prog T 43 ⟨true, [.i .i64, .i .i64, .l 116], [(0, 1), (1, 1), (2, 1)], 0, 40, false⟩ := TyOk.mkAgg (by kernel_rfl) rfl (by kernel_rfl) (show Tryz.prog.underlying 43 = some (.struct _) from Tryz.underlying43) (by kernel_rfl) (by kernel_rfl) (fun h => by cases h)
theorem ty_44 : TyOk Tryz.prog T 44 ⟨true, [.i .i64, .i .i64, .l 116], [(0, 1), (1, 1), (2, 1)], 0, 40, false⟩ := TyOk.mkAgg (by kernel_rfl) rfl (by kernel_rfl) (show Tryz.prog.underlying 44 = some (.struct _) from Tryz.underlying44) (by kernel_rfl) (by kernel_rfl) (fun h => by cases h)
theorem ty_45 : TyOk Tryz.prog T 45 ⟨false, [.l 153], [], 0, 24, false⟩ := TyOk.mkOne (c := .l 153) Tryz.underlying45 rfl (by kernel_rfl) rfl rfl (by kernel_rfl)
theorem ty_46 : TyOk Tryz.prog T 46 ⟨false, [.l 105], [], 0, 24, false⟩ := TyOk.mkOne (c := .l 105) Tryz.underlying46 rfl (by kernel_rfl) rfl rfl (by kernel_rfl)
theorem ty_47 : TyOk Tryz.prog T 47 ⟨true, [.l 90, .i .i64, .i .i64, .l 116, .l 153, .l 105, .i .i64, .i .i64, .i .i64], [(0, 1), (1, 3), (4, 1), (5, 1), (6, 1), (7, 1), (8, 1)], 0, 136, false⟩ := TyOk.mkAgg (by kernel_rfl) rfl (by kernel_rfl) (show Tryz.prog.underlying 47 = some (.struct _) from Tryz.underlying47) (by kernel_rfl) (by kernel_rfl) (fun h => by cases h)
theorem ty_48 : TyOk Tryz.prog T 48 ⟨true, [.l 90, .i .i64, .i .i64, .l 116, .l 153, .l 105, .i .i64, .i .i64, .i .i64], [(0, 1), (1, 3), (4, 1), (5, 1), (6, 1), (7, 1), (8, 1)], 0, 136, false⟩ := TyOk.mkAgg (by kernel_rfl) rfl (by kernel_rfl) (show Tryz.prog.underlying 48 = some (.struct _) from Tryz.underlying48) (by kernel_rfl) (by kernel_rfl) (fun h => by cases h)
theorem ty_49 : TyOk Tryz.prog T 49 ⟨false, [.l 83], [], 0, 24, false⟩ := TyOk.mkOne (c := .l 83) Tryz.underlying49 rfl (by kernel_rfl) rfl rfl (by kernel_rfl)
theorem ty_50 : TyOk Tryz.prog T 50 ⟨true, [.l 90, .l 83, .i .i64], [(0, 1), (1, 1), (2, 1)], 0, 56, false⟩ := TyOk.mkAgg (by kernel_rfl) rfl (by kernel_rfl) (show Tryz.prog.underlying 50 = some (.struct _) from Tryz.underlying50) (by kernel_rfl) (by kernel_rfl) (fun h => by cases h)
theorem ty_51 : TyOk Tryz.prog T 51 ⟨true, [.l 90, .l 83, .i .i64], [(0, 1), (1, 1), (2, 1)], 0, 56, false⟩ := TyOk.mkAgg (by kernel_rfl) rfl (by kernel_rfl) (show Tryz.prog.underlying 51 = some (.struct _) from Tryz.underlying51) (by kernel_rfl) (by kernel_rfl) (fun h => by cases h)
theorem ty_52 : TyOk Tryz.prog T 52 ⟨true, [.l 90, .i .i64, .i .i64, .l 116, .l 153, .l 105, .i .i64, .i .i64, .i .i64, .l 90, .l 83, .i .i64], [(0, 9), (9, 3)], 0, 192, false⟩ := TyOk.mkAgg (by kernel_rfl) rfl (by kernel_rfl) (show Tryz.prog.underlying 52 = some (.struct _) from Tryz.underlying52) (by kernel_rfl) (by kernel_rfl) (fun h => by cases h)
theorem ty_53 : TyOk Tryz.prog T 53 ⟨true, [.l 90, .i .i64, .i .i64, .l 116, .l 153, .l 105, .i .i64, .i .i64, .i .i64, .l 90, .l 83, .i .i64], [(0, 9), (9, 3)], 0, 192, false⟩ := TyOk.mkAgg (by kernel_rfl) rfl (by kernel_rfl) (show Tryz.prog.underlying 53 = some (.struct _) from Tryz.underlying53) (by kernel_rfl) (by kernel_rfl) (fun h => by cases h)
theorem ty_56 : TyOk Tryz.prog T 56 ⟨false, [.l 5], [], 0, 24, false⟩ := TyOk.mkOne (c := .l 5) Tryz.underlying56 rfl (by kernel_rfl) rfl rfl (by kernel_rfl)
theorem ty_58 : TyOk Tryz.prog T 58 ⟨false, [.l 118], [], 0, 24, false⟩ := TyOk.mkOne (c := .l 118) Tryz.underlying58 rfl (by kernel_rfl) rfl rfl (by kernel_rfl)
theorem ty_82 : TyOk Tryz.prog T 82 ⟨true, [.i .i64, .l 118, .l 118], [(0, 1), (1, 1), (2, 1)], 0, 56, false⟩ := TyOk.mkAgg (by kernel_rfl) rfl (by kernel_rfl) (show Tryz.prog.underlying 82 = some (.struct _) from Tryz.underlying82) (by kernel_rfl) (by kernel_rfl) (fun h => by cases h)
theorem ty_83 : TyOk Tryz.prog T 83 ⟨true, [.i .i64, .l 118, .l 118], [(0, 1), (1, 1), (2, 1)], 0, 56, false⟩ := TyOk.mkAgg (by kernel_rfl) rfl (by kernel_rfl) (show Tryz.prog.underlying 83 = some (.struct _) from Tryz.underlying83) (by kernel_rfl) (by kernel_rfl) (fun h => by cases h)
theorem ty_89 : TyOk Tryz.prog T 89 ⟨true, [.i .i64, .i .i64, .i .i64, .s, .s, .i .i64], [(0, 1), (1, 1), (2, 1), (3, 1), (4, 1), (5, 1)], 0, 64, false⟩ := TyOk.mkAgg (by kernel_rfl) rfl (by kernel_rfl) (show Tryz.prog.underlying 89 = some (.struct _) from Tryz.underlying89) (by kernel_rfl) (by kernel_rfl) (fun h => by cases h)
theorem eq_90 : EqFact Tryz.prog 90 [.i .i64, .i .i64, .i .i64, .s, .s, .i .i64] := by
  refine ⟨by kernel_rfl, fun w a b ha hb => ?_⟩
  match a, ha, b, hb with
  | [.i x0, .i x1, .i x2, .s x3, .s x4, .i x5], _, [.i y0, .i y1, .i y2, .s y3, .s y4, .i y5], _ =>
    have u3 := Tryz.underlying3
    have a3 := Tryz.isAgg3
    have z3 := Tryz.sizeOf3
    have u9 := Tryz.underlying9
    have a9 := Tryz.isAgg9
    have z9 := Tryz.sizeOf9
    have hS : Tryz.prog.underlying 90 = some (.struct (Tryz.prog.fieldsOf 90)) := by kernel_rfl
    have hp : Tryz.prog.stoodInHeld 90 = false := by kernel_rfl
    simp only [valsOf, valOf]
    rw [show (10000 : Nat) = 9999 + 1 from rfl, run_equalIn_agg w 9999 90 _ _ hS hp]
    simp only [Program.fieldsOf, Tryz.underlying90, eqDs, eqD]
    go_simp
    by_cases h0 : x0 = y0
    ·
      by_cases h1 : x1 = y1
      ·
        by_cases h2 : x2 = y2
        ·
          by_cases h3 : x3.toList = y3.toList
          ·
            by_cases h4 : x4.toList = y4.toList
            ·
              by_cases h5 : x5 = y5
              · simp [h0, h1, h2, h3, h4, h5]
              · simp [h0, h1, h2, h3, h4, h5]
            · simp [h0, h1, h2, h3, h4]
          · simp [h0, h1, h2, h3]
        · simp [h0, h1, h2]
      · simp [h0, h1]
    · simp [h0]
theorem ty_90 : TyOk Tryz.prog T 90 ⟨true, [.i .i64, .i .i64, .i .i64, .s, .s, .i .i64], [(0, 1), (1, 1), (2, 1), (3, 1), (4, 1), (5, 1)], 0, 64, true⟩ := TyOk.mkAgg (by kernel_rfl) rfl (by kernel_rfl) (show Tryz.prog.underlying 90 = some (.struct _) from Tryz.underlying90) (by kernel_rfl) (by kernel_rfl) (fun _ => eq_90)
theorem ty_98 : TyOk Tryz.prog T 98 ⟨false, [.l 3], [], 0, 24, false⟩ := TyOk.mkOne (c := .l 3) Tryz.underlying98 rfl (by kernel_rfl) rfl rfl (by kernel_rfl)
theorem ty_99 : TyOk Tryz.prog T 99 ⟨false, [.l 103], [], 0, 24, false⟩ := TyOk.mkOne (c := .l 103) Tryz.underlying99 rfl (by kernel_rfl) rfl rfl (by kernel_rfl)
theorem ty_100 : TyOk Tryz.prog T 100 ⟨false, [.l 9], [], 0, 24, false⟩ := TyOk.mkOne (c := .l 9) Tryz.underlying100 rfl (by kernel_rfl) rfl rfl (by kernel_rfl)
theorem ty_101 : TyOk Tryz.prog T 101 ⟨false, [.l 189], [], 0, 24, false⟩ := TyOk.mkOne (c := .l 189) Tryz.underlying101 rfl (by kernel_rfl) rfl rfl (by kernel_rfl)
theorem ty_102 : TyOk Tryz.prog T 102 ⟨true, [.i .i64, .i .i64, .i .i64, .s, .l 103, .l 9, .l 189], [(0, 1), (1, 1), (2, 1), (3, 1), (4, 1), (5, 1), (6, 1)], 0, 112, false⟩ := TyOk.mkAgg (by kernel_rfl) rfl (by kernel_rfl) (show Tryz.prog.underlying 102 = some (.struct _) from Tryz.underlying102) (by kernel_rfl) (by kernel_rfl) (fun h => by cases h)
theorem ty_103 : TyOk Tryz.prog T 103 ⟨true, [.i .i64, .i .i64, .i .i64, .s, .l 103, .l 9, .l 189], [(0, 1), (1, 1), (2, 1), (3, 1), (4, 1), (5, 1), (6, 1)], 0, 112, false⟩ := TyOk.mkAgg (by kernel_rfl) rfl (by kernel_rfl) (show Tryz.prog.underlying 103 = some (.struct _) from Tryz.underlying103) (by kernel_rfl) (by kernel_rfl) (fun h => by cases h)
theorem ty_104 : TyOk Tryz.prog T 104 ⟨true, [.i .i64, .i .i64, .i .i64, .l 3, .i .i64, .i .i64, .i .i64, .s, .l 103, .l 9, .l 189, .b], [(0, 1), (1, 1), (2, 1), (3, 1), (4, 7), (11, 1)], 0, 168, false⟩ := TyOk.mkAgg (by kernel_rfl) rfl (by kernel_rfl) (show Tryz.prog.underlying 104 = some (.struct _) from Tryz.underlying104) (by kernel_rfl) (by kernel_rfl) (fun h => by cases h)
theorem ty_105 : TyOk Tryz.prog T 105 ⟨true, [.i .i64, .i .i64, .i .i64, .l 3, .i .i64, .i .i64, .i .i64, .s, .l 103, .l 9, .l 189, .b], [(0, 1), (1, 1), (2, 1), (3, 1), (4, 7), (11, 1)], 0, 168, false⟩ := TyOk.mkAgg (by kernel_rfl) rfl (by kernel_rfl) (show Tryz.prog.underlying 105 = some (.struct _) from Tryz.underlying105) (by kernel_rfl) (by kernel_rfl) (fun h => by cases h)
theorem ty_115 : TyOk Tryz.prog T 115 ⟨true, [.s, .i .i64], [(0, 1), (1, 1)], 0, 24, false⟩ := TyOk.mkAgg (by kernel_rfl) rfl (by kernel_rfl) (show Tryz.prog.underlying 115 = some (.struct _) from Tryz.underlying115) (by kernel_rfl) (by kernel_rfl) (fun h => by cases h)
theorem eq_116 : EqFact Tryz.prog 116 [.s, .i .i64] := by
  refine ⟨by kernel_rfl, fun w a b ha hb => ?_⟩
  match a, ha, b, hb with
  | [.s x0, .i x1], _, [.s y0, .i y1], _ =>
    have u3 := Tryz.underlying3
    have a3 := Tryz.isAgg3
    have z3 := Tryz.sizeOf3
    have u9 := Tryz.underlying9
    have a9 := Tryz.isAgg9
    have z9 := Tryz.sizeOf9
    have hS : Tryz.prog.underlying 116 = some (.struct (Tryz.prog.fieldsOf 116)) := by kernel_rfl
    have hp : Tryz.prog.stoodInHeld 116 = false := by kernel_rfl
    simp only [valsOf, valOf]
    rw [show (10000 : Nat) = 9999 + 1 from rfl, run_equalIn_agg w 9999 116 _ _ hS hp]
    simp only [Program.fieldsOf, Tryz.underlying116, eqDs, eqD]
    go_simp
    by_cases h0 : x0.toList = y0.toList
    ·
      by_cases h1 : x1 = y1
      · simp [h0, h1]
      · simp [h0, h1]
    · simp [h0]
theorem ty_116 : TyOk Tryz.prog T 116 ⟨true, [.s, .i .i64], [(0, 1), (1, 1)], 0, 24, true⟩ := TyOk.mkAgg (by kernel_rfl) rfl (by kernel_rfl) (show Tryz.prog.underlying 116 = some (.struct _) from Tryz.underlying116) (by kernel_rfl) (by kernel_rfl) (fun _ => eq_116)
theorem ty_117 : TyOk Tryz.prog T 117 ⟨true, [.i .i64, .i .i64, .i .i64, .i .i64, .i .i64, .s, .s, .i .i64], [(0, 1), (1, 1), (2, 6)], 0, 80, false⟩ := TyOk.mkAgg (by kernel_rfl) rfl (by kernel_rfl) (show Tryz.prog.underlying 117 = some (.struct _) from Tryz.underlying117) (by kernel_rfl) (by kernel_rfl) (fun h => by cases h)
theorem eq_118 : EqFact Tryz.prog 118 [.i .i64, .i .i64, .i .i64, .i .i64, .i .i64, .s, .s, .i .i64] := by
  refine ⟨by kernel_rfl, fun w a b ha hb => ?_⟩
  match a, ha, b, hb with
  | [.i x0, .i x1, .i x2, .i x3, .i x4, .s x5, .s x6, .i x7], _, [.i y0, .i y1, .i y2, .i y3, .i y4, .s y5, .s y6, .i y7], _ =>
    have u3 := Tryz.underlying3
    have a3 := Tryz.isAgg3
    have z3 := Tryz.sizeOf3
    have u9 := Tryz.underlying9
    have a9 := Tryz.isAgg9
    have z9 := Tryz.sizeOf9
    have u90 := Tryz.underlying90
    have a90 := Tryz.isAgg90
    have z90 := Tryz.sizeOf90
    have hS : Tryz.prog.underlying 118 = some (.struct (Tryz.prog.fieldsOf 118)) := by kernel_rfl
    have hp : Tryz.prog.stoodInHeld 118 = false := by kernel_rfl
    have hS90 : Tryz.prog.underlying 90 = some (.struct (Tryz.prog.fieldsOf 90)) := by kernel_rfl
    have hp90 : Tryz.prog.stoodInHeld 90 = false := by kernel_rfl
    simp only [valsOf, valOf]
    rw [show (10000 : Nat) = 9999 + 1 from rfl, run_equalIn_agg w 9999 118 _ _ hS hp]
    simp only [Program.fieldsOf, Tryz.underlying118, eqDs, eqD]
    go_simp
    by_cases h0 : x0 = y0
    ·
      by_cases h1 : x1 = y1
      ·
        by_cases h2 : x2 = y2
        ·
          by_cases h3 : x3 = y3
          ·
            by_cases h4 : x4 = y4
            ·
              by_cases h5 : x5.toList = y5.toList
              ·
                by_cases h6 : x6.toList = y6.toList
                ·
                  by_cases h7 : x7 = y7
                  · simp [h0, h1, h2, h3, h4, h5, h6, h7]
                  · simp [h0, h1, h2, h3, h4, h5, h6, h7]
                · simp [h0, h1, h2, h3, h4, h5, h6]
              · simp [h0, h1, h2, h3, h4, h5]
            · simp [h0, h1, h2, h3, h4]
          · simp [h0, h1, h2, h3]
        · simp [h0, h1, h2]
      · simp [h0, h1]
    · simp [h0]
theorem ty_118 : TyOk Tryz.prog T 118 ⟨true, [.i .i64, .i .i64, .i .i64, .i .i64, .i .i64, .s, .s, .i .i64], [(0, 1), (1, 1), (2, 6)], 0, 80, true⟩ := TyOk.mkAgg (by kernel_rfl) rfl (by kernel_rfl) (show Tryz.prog.underlying 118 = some (.struct _) from Tryz.underlying118) (by kernel_rfl) (by kernel_rfl) (fun _ => eq_118)
theorem ty_121 : TyOk Tryz.prog T 121 ⟨true, [.l 5, .i .i64, .i .i64], [(0, 1), (1, 1), (2, 1)], 0, 40, false⟩ := TyOk.mkAgg (by kernel_rfl) rfl (by kernel_rfl) (show Tryz.prog.underlying 121 = some (.struct _) from Tryz.underlying121) (by kernel_rfl) (by kernel_rfl) (fun h => by cases h)
theorem ty_122 : TyOk Tryz.prog T 122 ⟨true, [.l 5, .i .i64, .i .i64], [(0, 1), (1, 1), (2, 1)], 0, 40, false⟩ := TyOk.mkAgg (by kernel_rfl) rfl (by kernel_rfl) (show Tryz.prog.underlying 122 = some (.struct _) from Tryz.underlying122) (by kernel_rfl) (by kernel_rfl) (fun h => by cases h)
theorem ty_137 : TyOk Tryz.prog T 137 ⟨false, [.l 210], [], 0, 24, false⟩ := TyOk.mkOne (c := .l 210) Tryz.underlying137 rfl (by kernel_rfl) rfl rfl (by kernel_rfl)
theorem ty_138 : TyOk Tryz.prog T 138 ⟨true, [.i .i64, .i .i64, .l 210], [(0, 1), (1, 1), (2, 1)], 0, 40, false⟩ := TyOk.mkAgg (by kernel_rfl) rfl (by kernel_rfl) (show Tryz.prog.underlying 138 = some (.struct _) from Tryz.underlying138) (by kernel_rfl) (by kernel_rfl) (fun h => by cases h)
theorem ty_139 : TyOk Tryz.prog T 139 ⟨true, [.i .i64, .i .i64, .l 210], [(0, 1), (1, 1), (2, 1)], 0, 40, false⟩ := TyOk.mkAgg (by kernel_rfl) rfl (by kernel_rfl) (show Tryz.prog.underlying 139 = some (.struct _) from Tryz.underlying139) (by kernel_rfl) (by kernel_rfl) (fun h => by cases h)
theorem ty_141 : TyOk Tryz.prog T 141 ⟨false, [.l 144], [], 0, 24, false⟩ := TyOk.mkOne (c := .l 144) Tryz.underlying141 rfl (by kernel_rfl) rfl rfl (by kernel_rfl)
theorem ty_142 : TyOk Tryz.prog T 142 ⟨false, [.l 234], [], 0, 24, false⟩ := TyOk.mkOne (c := .l 234) Tryz.underlying142 rfl (by kernel_rfl) rfl rfl (by kernel_rfl)
theorem ty_143 : TyOk Tryz.prog T 143 ⟨true, [.i .i64, .i .i64, .i .i64, .s, .l 144, .l 9, .l 234], [(0, 1), (1, 1), (2, 1), (3, 1), (4, 1), (5, 1), (6, 1)], 0, 112, false⟩ := TyOk.mkAgg (by kernel_rfl) rfl (by kernel_rfl) (show Tryz.prog.underlying 143 = some (.struct _) from Tryz.underlying143) (by kernel_rfl) (by kernel_rfl) (fun h => by cases h)
theorem ty_144 : TyOk Tryz.prog T 144 ⟨true, [.i .i64, .i .i64, .i .i64, .s, .l 144, .l 9, .l 234], [(0, 1), (1, 1), (2, 1), (3, 1), (4, 1), (5, 1), (6, 1)], 0, 112, false⟩ := TyOk.mkAgg (by kernel_rfl) rfl (by kernel_rfl) (show Tryz.prog.underlying 144 = some (.struct _) from Tryz.underlying144) (by kernel_rfl) (by kernel_rfl) (fun h => by cases h)
theorem ty_145 : TyOk Tryz.prog T 145 ⟨true, [.i .i64, .i .i64, .i .i64, .l 3, .i .i64, .i .i64, .i .i64, .s, .l 144, .l 9, .l 234, .b], [(0, 1), (1, 1), (2, 1), (3, 1), (4, 7), (11, 1)], 0, 168, false⟩ := TyOk.mkAgg (by kernel_rfl) rfl (by kernel_rfl) (show Tryz.prog.underlying 145 = some (.struct _) from Tryz.underlying145) (by kernel_rfl) (by kernel_rfl) (fun h => by cases h)
theorem ty_146 : TyOk Tryz.prog T 146 ⟨true, [.i .i64, .i .i64, .i .i64, .l 3, .i .i64, .i .i64, .i .i64, .s, .l 144, .l 9, .l 234, .b], [(0, 1), (1, 1), (2, 1), (3, 1), (4, 7), (11, 1)], 0, 168, false⟩ := TyOk.mkAgg (by kernel_rfl) rfl (by kernel_rfl) (show Tryz.prog.underlying 146 = some (.struct _) from Tryz.underlying146) (by kernel_rfl) (by kernel_rfl) (fun h => by cases h)
theorem ty_148 : TyOk Tryz.prog T 148 ⟨false, [.l 216], [], 0, 24, false⟩ := TyOk.mkOne (c := .l 216) Tryz.underlying148 rfl (by kernel_rfl) rfl rfl (by kernel_rfl)
theorem ty_149 : TyOk Tryz.prog T 149 ⟨true, [.i .i64, .l 216, .l 216], [(0, 1), (1, 1), (2, 1)], 0, 56, false⟩ := TyOk.mkAgg (by kernel_rfl) rfl (by kernel_rfl) (show Tryz.prog.underlying 149 = some (.struct _) from Tryz.underlying149) (by kernel_rfl) (by kernel_rfl) (fun h => by cases h)
theorem ty_150 : TyOk Tryz.prog T 150 ⟨true, [.i .i64, .l 216, .l 216], [(0, 1), (1, 1), (2, 1)], 0, 56, false⟩ := TyOk.mkAgg (by kernel_rfl) rfl (by kernel_rfl) (show Tryz.prog.underlying 150 = some (.struct _) from Tryz.underlying150) (by kernel_rfl) (by kernel_rfl) (fun h => by cases h)
theorem ty_151 : TyOk Tryz.prog T 151 ⟨false, [.l 185], [], 0, 24, false⟩ := TyOk.mkOne (c := .l 185) Tryz.underlying151 rfl (by kernel_rfl) rfl rfl (by kernel_rfl)
theorem ty_152 : TyOk Tryz.prog T 152 ⟨true, [.i .i64, .i .i64, .l 185], [(0, 1), (1, 1), (2, 1)], 0, 40, false⟩ := TyOk.mkAgg (by kernel_rfl) rfl (by kernel_rfl) (show Tryz.prog.underlying 152 = some (.struct _) from Tryz.underlying152) (by kernel_rfl) (by kernel_rfl) (fun h => by cases h)
theorem ty_153 : TyOk Tryz.prog T 153 ⟨true, [.i .i64, .i .i64, .l 185], [(0, 1), (1, 1), (2, 1)], 0, 40, false⟩ := TyOk.mkAgg (by kernel_rfl) rfl (by kernel_rfl) (show Tryz.prog.underlying 153 = some (.struct _) from Tryz.underlying153) (by kernel_rfl) (by kernel_rfl) (fun h => by cases h)
theorem eq_176 : EqFact Tryz.prog 176 [.i .i64, .i .i64, .i .i64, .s, .s, .i .i64] := by
  refine ⟨by kernel_rfl, fun w a b ha hb => ?_⟩
  match a, ha, b, hb with
  | [.i x0, .i x1, .i x2, .s x3, .s x4, .i x5], _, [.i y0, .i y1, .i y2, .s y3, .s y4, .i y5], _ =>
    have u3 := Tryz.underlying3
    have a3 := Tryz.isAgg3
    have z3 := Tryz.sizeOf3
    have u9 := Tryz.underlying9
    have a9 := Tryz.isAgg9
    have z9 := Tryz.sizeOf9
    have hS : Tryz.prog.underlying 176 = some (.struct (Tryz.prog.fieldsOf 176)) := by kernel_rfl
    have hp : Tryz.prog.stoodInHeld 176 = false := by kernel_rfl
    simp only [valsOf, valOf]
    rw [show (10000 : Nat) = 9999 + 1 from rfl, run_equalIn_agg w 9999 176 _ _ hS hp]
    simp only [Program.fieldsOf, Tryz.underlying176, eqDs, eqD]
    go_simp
    by_cases h0 : x0 = y0
    ·
      by_cases h1 : x1 = y1
      ·
        by_cases h2 : x2 = y2
        ·
          by_cases h3 : x3.toList = y3.toList
          ·
            by_cases h4 : x4.toList = y4.toList
            ·
              by_cases h5 : x5 = y5
              · simp [h0, h1, h2, h3, h4, h5]
              · simp [h0, h1, h2, h3, h4, h5]
            · simp [h0, h1, h2, h3, h4]
          · simp [h0, h1, h2, h3]
        · simp [h0, h1, h2]
      · simp [h0, h1]
    · simp [h0]
theorem ty_176 : TyOk Tryz.prog T 176 ⟨true, [.i .i64, .i .i64, .i .i64, .s, .s, .i .i64], [(0, 1), (1, 1), (2, 1), (3, 1), (4, 1), (5, 1)], 0, 64, true⟩ := TyOk.mkAgg (by kernel_rfl) rfl (by kernel_rfl) (show Tryz.prog.underlying 176 = some (.struct _) from Tryz.underlying176) (by kernel_rfl) (by kernel_rfl) (fun _ => eq_176)
theorem eq_178 : EqFact Tryz.prog 178 [.s, .i .i64] := by
  refine ⟨by kernel_rfl, fun w a b ha hb => ?_⟩
  match a, ha, b, hb with
  | [.s x0, .i x1], _, [.s y0, .i y1], _ =>
    have u3 := Tryz.underlying3
    have a3 := Tryz.isAgg3
    have z3 := Tryz.sizeOf3
    have u9 := Tryz.underlying9
    have a9 := Tryz.isAgg9
    have z9 := Tryz.sizeOf9
    have hS : Tryz.prog.underlying 178 = some (.struct (Tryz.prog.fieldsOf 178)) := by kernel_rfl
    have hp : Tryz.prog.stoodInHeld 178 = false := by kernel_rfl
    simp only [valsOf, valOf]
    rw [show (10000 : Nat) = 9999 + 1 from rfl, run_equalIn_agg w 9999 178 _ _ hS hp]
    simp only [Program.fieldsOf, Tryz.underlying178, eqDs, eqD]
    go_simp
    by_cases h0 : x0.toList = y0.toList
    ·
      by_cases h1 : x1 = y1
      · simp [h0, h1]
      · simp [h0, h1]
    · simp [h0]
theorem ty_178 : TyOk Tryz.prog T 178 ⟨true, [.s, .i .i64], [(0, 1), (1, 1)], 0, 24, true⟩ := TyOk.mkAgg (by kernel_rfl) rfl (by kernel_rfl) (show Tryz.prog.underlying 178 = some (.struct _) from Tryz.underlying178) (by kernel_rfl) (by kernel_rfl) (fun _ => eq_178)
theorem ty_184 : TyOk Tryz.prog T 184 ⟨true, [.i .i64, .i .i64, .i .i64, .s, .i .i64, .i .i64, .i .i64, .s, .l 103, .l 9, .l 189], [(0, 1), (1, 1), (2, 1), (3, 1), (4, 7)], 0, 152, false⟩ := TyOk.mkAgg (by kernel_rfl) rfl (by kernel_rfl) (show Tryz.prog.underlying 184 = some (.struct _) from Tryz.underlying184) (by kernel_rfl) (by kernel_rfl) (fun h => by cases h)
theorem ty_185 : TyOk Tryz.prog T 185 ⟨true, [.i .i64, .i .i64, .i .i64, .s, .i .i64, .i .i64, .i .i64, .s, .l 103, .l 9, .l 189], [(0, 1), (1, 1), (2, 1), (3, 1), (4, 7)], 0, 152, false⟩ := TyOk.mkAgg (by kernel_rfl) rfl (by kernel_rfl) (show Tryz.prog.underlying 185 = some (.struct _) from Tryz.underlying185) (by kernel_rfl) (by kernel_rfl) (fun h => by cases h)
theorem ty_187 : TyOk Tryz.prog T 187 ⟨false, [.l 198], [], 0, 24, false⟩ := TyOk.mkOne (c := .l 198) Tryz.underlying187 rfl (by kernel_rfl) rfl rfl (by kernel_rfl)
theorem ty_188 : TyOk Tryz.prog T 188 ⟨true, [.l 3, .l 198], [(0, 1), (1, 1)], 0, 48, false⟩ := TyOk.mkAgg (by kernel_rfl) rfl (by kernel_rfl) (show Tryz.prog.underlying 188 = some (.struct _) from Tryz.underlying188) (by kernel_rfl) (by kernel_rfl) (fun h => by cases h)
theorem ty_189 : TyOk Tryz.prog T 189 ⟨true, [.l 3, .l 198], [(0, 1), (1, 1)], 0, 48, false⟩ := TyOk.mkAgg (by kernel_rfl) rfl (by kernel_rfl) (show Tryz.prog.underlying 189 = some (.struct _) from Tryz.underlying189) (by kernel_rfl) (by kernel_rfl) (fun h => by cases h)
theorem ty_197 : TyOk Tryz.prog T 197 ⟨true, [.i .i64, .i .i64], [(0, 1), (1, 1)], 0, 16, false⟩ := TyOk.mkAgg (by kernel_rfl) rfl (by kernel_rfl) (show Tryz.prog.underlying 197 = some (.struct _) from Tryz.underlying197) (by kernel_rfl) (by kernel_rfl) (fun h => by cases h)
theorem eq_198 : EqFact Tryz.prog 198 [.i .i64, .i .i64] := by
  refine ⟨by kernel_rfl, fun w a b ha hb => ?_⟩
  match a, ha, b, hb with
  | [.i x0, .i x1], _, [.i y0, .i y1], _ =>
    have u3 := Tryz.underlying3
    have a3 := Tryz.isAgg3
    have z3 := Tryz.sizeOf3
    have hS : Tryz.prog.underlying 198 = some (.struct (Tryz.prog.fieldsOf 198)) := by kernel_rfl
    have hp : Tryz.prog.stoodInHeld 198 = false := by kernel_rfl
    simp only [valsOf, valOf]
    rw [show (10000 : Nat) = 9999 + 1 from rfl, run_equalIn_agg w 9999 198 _ _ hS hp]
    simp only [Program.fieldsOf, Tryz.underlying198, eqDs, eqD]
    go_simp
    by_cases h0 : x0 = y0
    ·
      by_cases h1 : x1 = y1
      · simp [h0, h1]
      · simp [h0, h1]
    · simp [h0]
theorem ty_198 : TyOk Tryz.prog T 198 ⟨true, [.i .i64, .i .i64], [(0, 1), (1, 1)], 0, 16, true⟩ := TyOk.mkAgg (by kernel_rfl) rfl (by kernel_rfl) (show Tryz.prog.underlying 198 = some (.struct _) from Tryz.underlying198) (by kernel_rfl) (by kernel_rfl) (fun _ => eq_198)
theorem ty_202 : TyOk Tryz.prog T 202 ⟨false, [.i .u64], [], 0, 8, false⟩ := TyOk.mkOne (c := .i .u64) Tryz.underlying202 rfl (by kernel_rfl) rfl rfl (by kernel_rfl)
theorem ty_209 : TyOk Tryz.prog T 209 ⟨true, [.i .i64, .i .i64, .i .i64, .s, .i .i64, .i .i64, .i .i64, .s, .l 144, .l 9, .l 234], [(0, 1), (1, 1), (2, 1), (3, 1), (4, 7)], 0, 152, false⟩ := TyOk.mkAgg (by kernel_rfl) rfl (by kernel_rfl) (show Tryz.prog.underlying 209 = some (.struct _) from Tryz.underlying209) (by kernel_rfl) (by kernel_rfl) (fun h => by cases h)
theorem ty_210 : TyOk Tryz.prog T 210 ⟨true, [.i .i64, .i .i64, .i .i64, .s, .i .i64, .i .i64, .i .i64, .s, .l 144, .l 9, .l 234], [(0, 1), (1, 1), (2, 1), (3, 1), (4, 7)], 0, 152, false⟩ := TyOk.mkAgg (by kernel_rfl) rfl (by kernel_rfl) (show Tryz.prog.underlying 210 = some (.struct _) from Tryz.underlying210) (by kernel_rfl) (by kernel_rfl) (fun h => by cases h)
theorem ty_215 : TyOk Tryz.prog T 215 ⟨true, [.i .i64, .i .i64, .i .i64, .i .i64, .i .i64, .s, .s, .i .i64], [(0, 1), (1, 1), (2, 6)], 0, 80, false⟩ := TyOk.mkAgg (by kernel_rfl) rfl (by kernel_rfl) (show Tryz.prog.underlying 215 = some (.struct _) from Tryz.underlying215) (by kernel_rfl) (by kernel_rfl) (fun h => by cases h)
theorem eq_216 : EqFact Tryz.prog 216 [.i .i64, .i .i64, .i .i64, .i .i64, .i .i64, .s, .s, .i .i64] := by
  refine ⟨by kernel_rfl, fun w a b ha hb => ?_⟩
  match a, ha, b, hb with
  | [.i x0, .i x1, .i x2, .i x3, .i x4, .s x5, .s x6, .i x7], _, [.i y0, .i y1, .i y2, .i y3, .i y4, .s y5, .s y6, .i y7], _ =>
    have u3 := Tryz.underlying3
    have a3 := Tryz.isAgg3
    have z3 := Tryz.sizeOf3
    have u9 := Tryz.underlying9
    have a9 := Tryz.isAgg9
    have z9 := Tryz.sizeOf9
    have u176 := Tryz.underlying176
    have a176 := Tryz.isAgg176
    have z176 := Tryz.sizeOf176
    have hS : Tryz.prog.underlying 216 = some (.struct (Tryz.prog.fieldsOf 216)) := by kernel_rfl
    have hp : Tryz.prog.stoodInHeld 216 = false := by kernel_rfl
    have hS176 : Tryz.prog.underlying 176 = some (.struct (Tryz.prog.fieldsOf 176)) := by kernel_rfl
    have hp176 : Tryz.prog.stoodInHeld 176 = false := by kernel_rfl
    simp only [valsOf, valOf]
    rw [show (10000 : Nat) = 9999 + 1 from rfl, run_equalIn_agg w 9999 216 _ _ hS hp]
    simp only [Program.fieldsOf, Tryz.underlying216, eqDs, eqD]
    go_simp
    by_cases h0 : x0 = y0
    ·
      by_cases h1 : x1 = y1
      ·
        by_cases h2 : x2 = y2
        ·
          by_cases h3 : x3 = y3
          ·
            by_cases h4 : x4 = y4
            ·
              by_cases h5 : x5.toList = y5.toList
              ·
                by_cases h6 : x6.toList = y6.toList
                ·
                  by_cases h7 : x7 = y7
                  · simp [h0, h1, h2, h3, h4, h5, h6, h7]
                  · simp [h0, h1, h2, h3, h4, h5, h6, h7]
                · simp [h0, h1, h2, h3, h4, h5, h6]
              · simp [h0, h1, h2, h3, h4, h5]
            · simp [h0, h1, h2, h3, h4]
          · simp [h0, h1, h2, h3]
        · simp [h0, h1, h2]
      · simp [h0, h1]
    · simp [h0]
theorem ty_216 : TyOk Tryz.prog T 216 ⟨true, [.i .i64, .i .i64, .i .i64, .i .i64, .i .i64, .s, .s, .i .i64], [(0, 1), (1, 1), (2, 6)], 0, 80, true⟩ := TyOk.mkAgg (by kernel_rfl) rfl (by kernel_rfl) (show Tryz.prog.underlying 216 = some (.struct _) from Tryz.underlying216) (by kernel_rfl) (by kernel_rfl) (fun _ => eq_216)
theorem ty_225 : TyOk Tryz.prog T 225 ⟨false, [.l 227], [], 0, 24, false⟩ := TyOk.mkOne (c := .l 227) Tryz.underlying225 rfl (by kernel_rfl) rfl rfl (by kernel_rfl)
theorem ty_226 : TyOk Tryz.prog T 226 ⟨true, [.i .i64, .i .i64, .s, .l 227], [(0, 1), (1, 1), (2, 1), (3, 1)], 0, 56, false⟩ := TyOk.mkAgg (by kernel_rfl) rfl (by kernel_rfl) (show Tryz.prog.underlying 226 = some (.struct _) from Tryz.underlying226) (by kernel_rfl) (by kernel_rfl) (fun h => by cases h)
theorem ty_227 : TyOk Tryz.prog T 227 ⟨true, [.i .i64, .i .i64, .s, .l 227], [(0, 1), (1, 1), (2, 1), (3, 1)], 0, 56, false⟩ := TyOk.mkAgg (by kernel_rfl) rfl (by kernel_rfl) (show Tryz.prog.underlying 227 = some (.struct _) from Tryz.underlying227) (by kernel_rfl) (by kernel_rfl) (fun h => by cases h)
theorem ty_232 : TyOk Tryz.prog T 232 ⟨false, [.l 254], [], 0, 24, false⟩ := TyOk.mkOne (c := .l 254) Tryz.underlying232 rfl (by kernel_rfl) rfl rfl (by kernel_rfl)
theorem ty_233 : TyOk Tryz.prog T 233 ⟨true, [.l 3, .l 254], [(0, 1), (1, 1)], 0, 48, false⟩ := TyOk.mkAgg (by kernel_rfl) rfl (by kernel_rfl) (show Tryz.prog.underlying 233 = some (.struct _) from Tryz.underlying233) (by kernel_rfl) (by kernel_rfl) (fun h => by cases h)
theorem ty_234 : TyOk Tryz.prog T 234 ⟨true, [.l 3, .l 254], [(0, 1), (1, 1)], 0, 48, false⟩ := TyOk.mkAgg (by kernel_rfl) rfl (by kernel_rfl) (show Tryz.prog.underlying 234 = some (.struct _) from Tryz.underlying234) (by kernel_rfl) (by kernel_rfl) (fun h => by cases h)
theorem eq_254 : EqFact Tryz.prog 254 [.i .i64, .i .i64] := by
  refine ⟨by kernel_rfl, fun w a b ha hb => ?_⟩
  match a, ha, b, hb with
  | [.i x0, .i x1], _, [.i y0, .i y1], _ =>
    have u3 := Tryz.underlying3
    have a3 := Tryz.isAgg3
    have z3 := Tryz.sizeOf3
    have hS : Tryz.prog.underlying 254 = some (.struct (Tryz.prog.fieldsOf 254)) := by kernel_rfl
    have hp : Tryz.prog.stoodInHeld 254 = false := by kernel_rfl
    simp only [valsOf, valOf]
    rw [show (10000 : Nat) = 9999 + 1 from rfl, run_equalIn_agg w 9999 254 _ _ hS hp]
    simp only [Program.fieldsOf, Tryz.underlying254, eqDs, eqD]
    go_simp
    by_cases h0 : x0 = y0
    ·
      by_cases h1 : x1 = y1
      · simp [h0, h1]
      · simp [h0, h1]
    · simp [h0]
theorem ty_254 : TyOk Tryz.prog T 254 ⟨true, [.i .i64, .i .i64], [(0, 1), (1, 1)], 0, 16, true⟩ := TyOk.mkAgg (by kernel_rfl) rfl (by kernel_rfl) (show Tryz.prog.underlying 254 = some (.struct _) from Tryz.underlying254) (by kernel_rfl) (by kernel_rfl) (fun _ => eq_254)
theorem ty_263 : TyOk Tryz.prog T 263 ⟨false, [.i .u32], [], 0, 4, false⟩ := TyOk.mkOne (c := .i .u32) Tryz.underlying263 rfl (by kernel_rfl) rfl rfl (by kernel_rfl)
theorem ty_264 : TyOk Tryz.prog T 264 ⟨false, [.i .u8], [], 0, 1, false⟩ := TyOk.mkOne (c := .i .u8) Tryz.underlying264 rfl (by kernel_rfl) rfl rfl (by kernel_rfl)
theorem ty_265 : TyOk Tryz.prog T 265 ⟨false, [.i .u8], [], 0, 1, false⟩ := TyOk.mkOne (c := .i .u8) Tryz.underlying265 rfl (by kernel_rfl) rfl rfl (by kernel_rfl)
theorem ty_268 : TyOk Tryz.prog T 268 ⟨false, [.i .i32], [], 0, 4, false⟩ := TyOk.mkOne (c := .i .i32) Tryz.underlying268 rfl (by kernel_rfl) rfl rfl (by kernel_rfl)
theorem ty_269 : TyOk Tryz.prog T 269 ⟨false, [.i .i32], [], 0, 4, false⟩ := TyOk.mkOne (c := .i .i32) Tryz.underlying269 rfl (by kernel_rfl) rfl rfl (by kernel_rfl)
theorem tabT : TabOk Tryz.prog T := tabOk fun p hp => by
  simp only [tab, List.mem_cons, List.not_mem_nil, or_false] at hp
  rcases hp with rfl | rfl | rfl | rfl | rfl | rfl | rfl | rfl | rfl | rfl | rfl | rfl | rfl | rfl | rfl | rfl | rfl | rfl | rfl | rfl | rfl | rfl | rfl | rfl | rfl | rfl | rfl | rfl | rfl | rfl | rfl | rfl | rfl | rfl | rfl | rfl | rfl | rfl | rfl | rfl | rfl | rfl | rfl | rfl | rfl | rfl | rfl | rfl | rfl | rfl | rfl | rfl | rfl | rfl | rfl | rfl | rfl | rfl | rfl | rfl | rfl | rfl | rfl | rfl | rfl | rfl | rfl | rfl | rfl | rfl | rfl | rfl | rfl | rfl | rfl | rfl | rfl | rfl | rfl | rfl | rfl | rfl | rfl | rfl | rfl | rfl | rfl | rfl | rfl | rfl | rfl | rfl | rfl | rfl | rfl | rfl | rfl | rfl | rfl | rfl | rfl | rfl | rfl | rfl | rfl
  · exact ty_2
  · exact ty_3
  · exact ty_4
  · exact ty_5
  · exact ty_6
  · exact ty_7
  · exact ty_8
  · exact ty_9
  · exact ty_10
  · exact ty_11
  · exact ty_12
  · exact ty_13
  · exact ty_14
  · exact ty_21
  · exact ty_22
  · exact ty_23
  · exact ty_24
  · exact ty_25
  · exact ty_26
  · exact ty_27
  · exact ty_28
  · exact ty_29
  · exact ty_30
  · exact ty_31
  · exact ty_32
  · exact ty_33
  · exact ty_34
  · exact ty_35
  · exact ty_36
  · exact ty_39
  · exact ty_40
  · exact ty_41
  · exact ty_42
  · exact ty_43
  · exact ty_44
  · exact ty_45
  · exact ty_46
  · exact ty_47
  · exact ty_48
  · exact ty_49
  · exact ty_50
  · exact ty_51
  · exact ty_52
  · exact ty_53
  · exact ty_56
  · exact ty_58
  · exact ty_82
  · exact ty_83
  · exact ty_89
  · exact ty_90
  · exact ty_98
  · exact ty_99
  · exact ty_100
  · exact ty_101
  · exact ty_102
  · exact ty_103
  · exact ty_104
  · exact ty_105
  · exact ty_115
  · exact ty_116
  · exact ty_117
  · exact ty_118
  · exact ty_121
  · exact ty_122
  · exact ty_137
  · exact ty_138
  · exact ty_139
  · exact ty_141
  · exact ty_142
  · exact ty_143
  · exact ty_144
  · exact ty_145
  · exact ty_146
  · exact ty_148
  · exact ty_149
  · exact ty_150
  · exact ty_151
  · exact ty_152
  · exact ty_153
  · exact ty_176
  · exact ty_178
  · exact ty_184
  · exact ty_185
  · exact ty_187
  · exact ty_188
  · exact ty_189
  · exact ty_197
  · exact ty_198
  · exact ty_202
  · exact ty_209
  · exact ty_210
  · exact ty_215
  · exact ty_216
  · exact ty_225
  · exact ty_226
  · exact ty_227
  · exact ty_232
  · exact ty_233
  · exact ty_234
  · exact ty_254
  · exact ty_263
  · exact ty_264
  · exact ty_265
  · exact ty_268
  · exact ty_269
theorem mixed : Tryz.prog.follows .mixedOrders = true := by kernel_rfl
end Go.Proofs.YtijnlnmoellbaaaGreat.Ab
