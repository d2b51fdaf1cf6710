/- The table of the types whose values are data: printed by a program from the types as the model has them. -/
import Derived.Test.YtidjlboppokloaaK6
import Derived.Test.YtidjlboppokloaaFrame
import Derived.Laws.StructEq
namespace Go.Proofs.Ytidjlboppokloaa.Ab
open Go.RowKit
set_option linter.unusedVariables false
set_option maxRecDepth 100000
def tab : List (TypeId × Ty) := [
  (2, ⟨false, [.i .i64], [], 0, 8, false⟩),
  (3, ⟨false, [.i .i64], [], 0, 8, false⟩),
  (4, ⟨false, [.b], [], 0, 1, false⟩),
  (5, ⟨false, [.i .u8], [], 0, 1, false⟩),
  (6, ⟨false, [.i .u8], [], 0, 1, false⟩),
  (7, ⟨true, [.i .i64, .i .i64, .b, .i .u8], [(0, 1), (1, 1), (2, 1), (3, 1)], 0, 24, false⟩),
  (8, ⟨true, [.i .i64, .i .i64, .b, .i .u8], [(0, 1), (1, 1), (2, 1), (3, 1)], 0, 24, false⟩),
  (9, ⟨false, [.s], [], 0, 16, false⟩),
  (10, ⟨false, [.s], [], 0, 16, false⟩),
  (11, ⟨false, [.s], [], 0, 16, false⟩),
  (12, ⟨false, [.i .u64], [], 0, 8, false⟩),
  (13, ⟨true, [.s, .i .u64], [(0, 1), (1, 1)], 0, 24, false⟩),
  (14, ⟨true, [.s, .i .u64], [(0, 1), (1, 1)], 0, 24, false⟩),
  (21, ⟨false, [.i .i32], [], 0, 4, false⟩),
  (22, ⟨false, [.l 51], [], 0, 24, false⟩),
  (24, ⟨false, [.l 54], [], 0, 24, false⟩),
  (30, ⟨false, [.l 124], [], 0, 24, false⟩),
  (31, ⟨true, [.l 124], [(0, 1)], 0, 24, false⟩),
  (32, ⟨true, [.l 124], [(0, 1)], 0, 24, false⟩),
  (33, ⟨false, [.l 126], [], 0, 24, false⟩),
  (34, ⟨true, [.i .i64, .i .i64, .l 126], [(0, 1), (1, 1), (2, 1)], 0, 40, false⟩),
  (35, ⟨true, [.i .i64, .i .i64, .l 126], [(0, 1), (1, 1), (2, 1)], 0, 40, false⟩),
  (36, ⟨false, [.l 133], [], 0, 24, false⟩),
  (37, ⟨true, [.l 124, .i .i64, .i .i64, .l 126, .l 54, .l 133, .i .i64, .i .i64, .i .i64], [(0, 1), (1, 3), (4, 1), (5, 1), (6, 1), (7, 1), (8, 1)], 0, 136, false⟩),
  (38, ⟨true, [.l 124, .i .i64, .i .i64, .l 126, .l 54, .l 133, .i .i64, .i .i64, .i .i64], [(0, 1), (1, 3), (4, 1), (5, 1), (6, 1), (7, 1), (8, 1)], 0, 136, false⟩),
  (39, ⟨false, [.l 95], [], 0, 24, false⟩),
  (40, ⟨true, [.l 124, .l 95, .i .i64], [(0, 1), (1, 1), (2, 1)], 0, 56, false⟩),
  (41, ⟨true, [.l 124, .l 95, .i .i64], [(0, 1), (1, 1), (2, 1)], 0, 56, false⟩),
  (42, ⟨true, [.l 124, .i .i64, .i .i64, .l 126, .l 54, .l 133, .i .i64, .i .i64, .i .i64, .l 124, .l 95, .i .i64], [(0, 9), (9, 3)], 0, 192, false⟩),
  (43, ⟨true, [.l 124, .i .i64, .i .i64, .l 126, .l 54, .l 133, .i .i64, .i .i64, .i .i64, .l 124, .l 95, .i .i64], [(0, 9), (9, 3)], 0, 192, false⟩),
  (49, ⟨false, [.l 110], [], 0, 24, false⟩),
  (50, ⟨true, [.i .i64, .i .i64, .l 110], [(0, 1), (1, 1), (2, 1)], 0, 40, false⟩),
  (51, ⟨true, [.i .i64, .i .i64, .l 110], [(0, 1), (1, 1), (2, 1)], 0, 40, false⟩),
  (52, ⟨false, [.l 64], [], 0, 24, false⟩),
  (53, ⟨true, [.i .i64, .i .i64, .l 64], [(0, 1), (1, 1), (2, 1)], 0, 40, false⟩),
  (54, ⟨true, [.i .i64, .i .i64, .l 64], [(0, 1), (1, 1), (2, 1)], 0, 40, false⟩),
  (56, ⟨false, [.l 60], [], 0, 24, false⟩),
  (57, ⟨false, [.l 9], [], 0, 24, false⟩),
  (58, ⟨false, [.l 114], [], 0, 24, false⟩),
  (59, ⟨true, [.i .i64, .i .i64, .i .i64, .s, .l 60, .l 9, .l 114], [(0, 1), (1, 1), (2, 1), (3, 1), (4, 1), (5, 1), (6, 1)], 0, 112, false⟩),
  (60, ⟨true, [.i .i64, .i .i64, .i .i64, .s, .l 60, .l 9, .l 114], [(0, 1), (1, 1), (2, 1), (3, 1), (4, 1), (5, 1), (6, 1)], 0, 112, false⟩),
  (63, ⟨true, [.i .i64, .i .i64, .i .i64, .s, .i .i64, .i .i64, .i .i64, .s, .l 60, .l 9, .l 114], [(0, 1), (1, 1), (2, 1), (3, 1), (4, 7)], 0, 152, false⟩),
  (64, ⟨true, [.i .i64, .i .i64, .i .i64, .s, .i .i64, .i .i64, .i .i64, .s, .l 60, .l 9, .l 114], [(0, 1), (1, 1), (2, 1), (3, 1), (4, 7)], 0, 152, false⟩),
  (93, ⟨false, [.l 148], [], 0, 24, false⟩),
  (94, ⟨true, [.i .i64, .l 148, .l 148], [(0, 1), (1, 1), (2, 1)], 0, 56, false⟩),
  (95, ⟨true, [.i .i64, .l 148, .l 148], [(0, 1), (1, 1), (2, 1)], 0, 56, false⟩),
  (105, ⟨false, [.l 108], [], 0, 24, false⟩),
  (106, ⟨false, [.l 162], [], 0, 24, false⟩),
  (107, ⟨true, [.i .i64, .i .i64, .i .i64, .s, .l 108, .l 9, .l 162], [(0, 1), (1, 1), (2, 1), (3, 1), (4, 1), (5, 1), (6, 1)], 0, 112, false⟩),
  (108, ⟨true, [.i .i64, .i .i64, .i .i64, .s, .l 108, .l 9, .l 162], [(0, 1), (1, 1), (2, 1), (3, 1), (4, 1), (5, 1), (6, 1)], 0, 112, false⟩),
  (109, ⟨true, [.i .i64, .i .i64, .i .i64, .s, .i .i64, .i .i64, .i .i64, .s, .l 108, .l 9, .l 162], [(0, 1), (1, 1), (2, 1), (3, 1), (4, 7)], 0, 152, false⟩),
  (110, ⟨true, [.i .i64, .i .i64, .i .i64, .s, .i .i64, .i .i64, .i .i64, .s, .l 108, .l 9, .l 162], [(0, 1), (1, 1), (2, 1), (3, 1), (4, 7)], 0, 152, false⟩),
  (111, ⟨false, [.l 3], [], 0, 24, false⟩),
  (112, ⟨false, [.l 142], [], 0, 24, false⟩),
  (113, ⟨true, [.l 3, .l 142], [(0, 1), (1, 1)], 0, 48, false⟩),
  (114, ⟨true, [.l 3, .l 142], [(0, 1), (1, 1)], 0, 48, false⟩),
  (118, ⟨false, [.l 5], [], 0, 24, false⟩),
  (123, ⟨true, [.i .i64, .i .i64, .i .i64, .s, .s, .i .i64], [(0, 1), (1, 1), (2, 1), (3, 1), (4, 1), (5, 1)], 0, 64, false⟩),
  (124, ⟨true, [.i .i64, .i .i64, .i .i64, .s, .s, .i .i64], [(0, 1), (1, 1), (2, 1), (3, 1), (4, 1), (5, 1)], 0, 64, true⟩),
  (125, ⟨true, [.s, .i .i64], [(0, 1), (1, 1)], 0, 24, false⟩),
  (126, ⟨true, [.s, .i .i64], [(0, 1), (1, 1)], 0, 24, true⟩),
  (132, ⟨true, [.i .i64, .i .i64, .i .i64, .l 3, .i .i64, .i .i64, .i .i64, .s, .l 60, .l 9, .l 114, .b], [(0, 1), (1, 1), (2, 1), (3, 1), (4, 7), (11, 1)], 0, 168, false⟩),
  (133, ⟨true, [.i .i64, .i .i64, .i .i64, .l 3, .i .i64, .i .i64, .i .i64, .s, .l 60, .l 9, .l 114, .b], [(0, 1), (1, 1), (2, 1), (3, 1), (4, 7), (11, 1)], 0, 168, false⟩),
  (141, ⟨true, [.i .i64, .i .i64], [(0, 1), (1, 1)], 0, 16, false⟩),
  (142, ⟨true, [.i .i64, .i .i64], [(0, 1), (1, 1)], 0, 16, true⟩),
  (147, ⟨true, [.i .i64, .i .i64, .i .i64, .i .i64, .i .i64, .s, .s, .i .i64], [(0, 1), (1, 1), (2, 6)], 0, 80, false⟩),
  (148, ⟨true, [.i .i64, .i .i64, .i .i64, .i .i64, .i .i64, .s, .s, .i .i64], [(0, 1), (1, 1), (2, 6)], 0, 80, true⟩),
  (160, ⟨false, [.l 172], [], 0, 24, false⟩),
  (161, ⟨true, [.l 3, .l 172], [(0, 1), (1, 1)], 0, 48, false⟩),
  (162, ⟨true, [.l 3, .l 172], [(0, 1), (1, 1)], 0, 48, false⟩),
  (172, ⟨true, [.i .i64, .i .i64], [(0, 1), (1, 1)], 0, 16, true⟩),
  (181, ⟨false, [.i .u32], [], 0, 4, false⟩),
  (182, ⟨false, [.i .u8], [], 0, 1, false⟩),
  (183, ⟨false, [.i .u8], [], 0, 1, false⟩),
  (186, ⟨false, [.i .i32], [], 0, 4, false⟩),
  (187, ⟨false, [.i .i32], [], 0, 4, false⟩)]
abbrev T : Tab := tabOf tab
theorem ty_2 : TyOk Try.prog T 2 ⟨false, [.i .i64], [], 0, 8, false⟩ := TyOk.mkOne (c := .i .i64) Try.underlying2 rfl (by kernel_rfl) rfl rfl (by kernel_rfl)
theorem ty_3 : TyOk Try.prog T 3 ⟨false, [.i .i64], [], 0, 8, false⟩ := TyOk.mkOne (c := .i .i64) Try.underlying3 rfl (by kernel_rfl) rfl rfl (by kernel_rfl)
theorem ty_4 : TyOk Try.prog T 4 ⟨false, [.b], [], 0, 1, false⟩ := TyOk.mkOne (c := .b) Try.underlying4 rfl (by kernel_rfl) rfl rfl (by kernel_rfl)
theorem ty_5 : TyOk Try.prog T 5 ⟨false, [.i .u8], [], 0, 1, false⟩ := TyOk.mkOne (c := .i .u8) Try.underlying5 rfl (by kernel_rfl) rfl rfl (by kernel_rfl)
theorem ty_6 : TyOk Try.prog T 6 ⟨false, [.i .u8], [], 0, 1, false⟩ := TyOk.mkOne (c := .i .u8) Try.underlying6 rfl (by kernel_rfl) rfl rfl (by kernel_rfl)
theorem ty_7 : TyOk Try.prog T 7 ⟨true, [.i .i64, .i .i64, .b, .i .u8], [(0, 1), (1, 1), (2, 1), (3, 1)], 0, 24, false⟩ := TyOk.mkAgg (by kernel_rfl) rfl (by kernel_rfl) (show Try.prog.underlying 7 = some (.struct _) from Try.underlying7) (by kernel_rfl) (by kernel_rfl) (fun h => by cases h)
theorem ty_8 : TyOk Try.prog T 8 ⟨true, [.i .i64, .i .i64, .b, .i .u8], [(0, 1), (1, 1), (2, 1), (3, 1)], 0, 24, false⟩ := TyOk.mkAgg (by kernel_rfl) rfl (by kernel_rfl) (show Try.prog.underlying 8 = some (.struct _) from Try.underlying8) (by kernel_rfl) (by kernel_rfl) (fun h => by cases h)
theorem ty_9 : TyOk Try.prog T 9 ⟨false, [.s], [], 0, 16, false⟩ := TyOk.mkOne (c := .s) Try.underlying9 rfl (by kernel_rfl) rfl rfl (by kernel_rfl)
theorem ty_10 : TyOk Try.prog T 10 ⟨false, [.s], [], 0, 16, false⟩ := TyOk.mkOne (c := .s) Try.underlying10 rfl (by kernel_rfl) rfl rfl (by kernel_rfl)
theorem ty_11 : TyOk Try.prog T 11 ⟨false, [.s], [], 0, 16, false⟩ := TyOk.mkOne (c := .s) Try.underlying11 rfl (by kernel_rfl) rfl rfl (by kernel_rfl)
theorem ty_12 : TyOk Try.prog T 12 ⟨false, [.i .u64], [], 0, 8, false⟩ := TyOk.mkOne (c := .i .u64) Try.underlying12 rfl (by kernel_rfl) rfl rfl (by kernel_rfl)
theorem ty_13 : TyOk Try.prog T 13 ⟨true, [.s, .i .u64], [(0, 1), (1, 1)], 0, 24, false⟩ := TyOk.mkAgg (by kernel_rfl) rfl (by kernel_rfl) (show Try.prog.underlying 13 = some (.struct _) from Try.underlying13) (by kernel_rfl) (by kernel_rfl) (fun h => by cases h)
theorem ty_14 : TyOk Try.prog T 14 ⟨true, [.s, .i .u64], [(0, 1), (1, 1)], 0, 24, false⟩ := TyOk.mkAgg (by kernel_rfl) rfl (by kernel_rfl) (show Try.prog.underlying 14 = some (.struct _) from Try.underlying14) (by kernel_rfl) (by kernel_rfl) (fun h => by cases h)
theorem ty_21 : TyOk Try.prog T 21 ⟨false, [.i .i32], [], 0, 4, false⟩ := TyOk.mkOne (c := .i .i32) Try.underlying21 rfl (by kernel_rfl) rfl rfl (by kernel_rfl)
theorem ty_22 : TyOk Try.prog T 22 ⟨false, [.l 51], [], 0, 24, false⟩ := TyOk.mkOne (c := .l 51) Try.underlying22 rfl (by kernel_rfl) rfl rfl (by kernel_rfl)
theorem ty_24 : TyOk Try.prog T 24 ⟨false, [.l 54], [], 0, 24, false⟩ := TyOk.mkOne (c := .l 54) Try.underlying24 rfl (by kernel_rfl) rfl rfl (by kernel_rfl)
theorem ty_30 : TyOk Try.prog T 30 ⟨false, [.l 124], [], 0, 24, false⟩ := TyOk.mkOne (c := .l 124) Try.underlying30 rfl (by kernel_rfl) rfl rfl (by kernel_rfl)
theorem ty_31 : TyOk Try.prog T 31 ⟨true, [.l 124], [(0, 1)], 0, 24, false⟩ := TyOk.mkAgg (by kernel_rfl) rfl (by kernel_rfl) (show Try.prog.underlying 31 = some (.struct _) from Try.underlying31) (by kernel_rfl) (by kernel_rfl) (fun h => by cases h)
theorem ty_32 : TyOk Try.prog T 32 ⟨true, [.l 124], [(0, 1)], 0, 24, false⟩ := TyOk.mkAgg (by kernel_rfl) rfl (by kernel_rfl) (show Try.prog.underlying 32 = some (.struct _) from Try.underlying32) (by kernel_rfl) (by kernel_rfl) (fun h => by cases h)
theorem ty_33 : TyOk Try.prog T 33 ⟨false, [.l 126], [], 0, 24, false⟩ := TyOk.mkOne (c := .l 126) Try.underlying33 rfl (by kernel_rfl) rfl rfl (by kernel_rfl)
theorem ty_34 : TyOk Try.prog T 34 ⟨true, [.i .i64, .i .i64, .l 126], [(0, 1), (1, 1), (2, 1)], 0, 40, false⟩ := TyOk.mkAgg (by kernel_rfl) rfl (by kernel_rfl) (show Try.prog.underlying 34 = some (.struct _) from Try.underlying34) (by kernel_rfl) (by kernel_rfl) (fun h => by cases h)
theorem ty_35 : TyOk Try.prog T 35 ⟨true, [.i .i64, .i .i64, .l 126], [(0, 1), (1, 1), (2, 1)], 0, 40, false⟩ := TyOk.mkAgg (by kernel_rfl) rfl (by kernel_rfl) (show Try.prog.underlying 35 = some (.struct _) from Try.underlying35) (by kernel_rfl) (by kernel_rfl) (fun h => by cases h)
theorem ty_36 : TyOk Try.prog T 36 ⟨false, [.l 133], [], 0, 24, false⟩ := TyOk.mkOne (c := .l 133) Try.underlying36 rfl (by kernel_rfl) rfl rfl (by kernel_rfl)
theorem ty_37 : TyOk Try.prog T 37 ⟨true, [.l 124, .i .i64, .i .i64, .l 126, .l 54, .l 133, .i .i64, .i .i64, .i .i64], [(0, 1), (1, 3), (4, 1), (5, 1), (6, 1), (7, 1), (8, 1)], 0, 136, false⟩ := TyOk.mkAgg (by kernel_rfl) rfl (by kernel_rfl) (show Try.prog.underlying 37 = some (.struct _) from Try.underlying37) (by kernel_rfl) (by kernel_rfl) (fun h => by cases h)
theorem ty_38 : TyOk Try.prog T 38 ⟨true, [.l 124, .i .i64, .i .i64, .l 126, .l 54, .l 133, .i .i64, .i .i64, .i .i64], [(0, 1), (1, 3), (4, 1), (5, 1), (6, 1), (7, 1), (8, 1)], 0, 136, false⟩ := TyOk.mkAgg (by kernel_rfl) rfl (by kernel_rfl) (show Try.prog.underlying 38 = some (.struct _) from Try.underlying38) (by kernel_rfl) (by kernel_rfl) (fun h => by cases h)
theorem ty_39 : TyOk Try.prog T 39 ⟨false, [.l 95], [], 0, 24, false⟩ := TyOk.mkOne (c := .l 95) Try.underlying39 rfl (by kernel_rfl) rfl rfl (by kernel_rfl)
theorem ty_40 : TyOk Try.prog T 40 ⟨true, [.l 124, .l 95, .i .i64], [(0, 1), (1, 1), (2, 1)], 0, 56, false⟩ := TyOk.mkAgg (by kernel_rfl) rfl (by kernel_rfl) (show Try.prog.underlying 40 = some (.struct _) from Try.underlying40) (by kernel_rfl) (by kernel_rfl) (fun h => by cases h)
theorem ty_41 : TyOk Try.prog T 41 ⟨true, [.l 124, .l 95, .i .i64], [(0, 1), (1, 1), (2, 1)], 0, 56, false⟩ := TyOk.mkAgg (by kernel_rfl) rfl (by kernel_rfl) (show Try.prog.underlying 41 = some (.struct _) from Try.underlying41) (by kernel_rfl) (by kernel_rfl) (fun h => by cases h)
theorem ty_42 : TyOk Try.prog T 42 ⟨true, [.l 124, .i .i64, .i .i64, .l 126, .l 54, .l 133, .i .i64, .i .i64, .i .i64, .l 124, .l 95, .i .i64], [(0, 9), (9, 3)], 0, 192, false⟩ := TyOk.mkAgg (by kernel_rfl) rfl (by kernel_rfl) (show Try.prog.underlying 42 = some (.struct _) from Try.underlying42) (by kernel_rfl) (by kernel_rfl) (fun h => by cases h)
theorem ty_43 : TyOk Try.prog T 43 ⟨true, [.l 124, .i .i64, .i .i64, .l 126, .l 54, .l 133, .i .i64, .i .i64, .i .i64, .l 124, .l 95, .i .i64], [(0, 9), (9, 3)], 0, 192, false⟩ := TyOk.mkAgg (by kernel_rfl) rfl (by kernel_rfl) (show Try.prog.underlying 43 = some (.struct _) from Try.underlying43) (by kernel_rfl) (by kernel_rfl) (fun h => by cases h)
theorem ty_49 : TyOk Try.prog T 49 ⟨false, [.l 110], [], 0, 24, false⟩ := TyOk.mkOne (c := .l 110) Try.underlying49 rfl (by kernel_rfl) rfl rfl (by kernel_rfl)
theorem ty_50 : TyOk Try.prog T 50 ⟨true, [.i .i64, .i .i64, .l 110], [(0, 1), (1, 1), (2, 1)], 0, 40, false⟩ := TyOk.mkAgg (by kernel_rfl) rfl (by kernel_rfl) (show Try.prog.underlying 50 = some (.struct _) from Try.underlying50) (by kernel_rfl) (by kernel_rfl) (fun h => by cases h)
theorem ty_51 : TyOk Try.prog T 51 ⟨true, [.i .i64, .i .i64, .l 110], [(0, 1), (1, 1), (2, 1)], 0, 40, false⟩ := TyOk.mkAgg (by kernel_rfl) rfl (by kernel_rfl) (show Try.prog.underlying 51 = some (.struct _) from Try.underlying51) (by kernel_rfl) (by kernel_rfl) (fun h => by cases h)
theorem ty_52 : TyOk Try.prog T 52 ⟨false, [.l 64], [], 0, 24, false⟩ := TyOk.mkOne (c := .l 64) Try.underlying52 rfl (by kernel_rfl) rfl rfl (by kernel_rfl)
theorem ty_53 : TyOk Try.prog T 53 ⟨true, [.i .i64, .i .i64, .l 64], [(0, 1), (1, 1), (2, 1)], 0, 40, false⟩ := TyOk.mkAgg (by kernel_rfl) rfl (by kernel_rfl) (show Try.prog.underlying 53 = some (.struct _) from Try.underlying53) (by kernel_rfl) (by kernel_rfl) (fun h => by cases h)
theorem ty_54 : TyOk Try.prog T 54 ⟨true, [.i .i64, .i .i64, .l 64], [(0, 1), (1, 1), (2, 1)], 0, 40, false⟩ := TyOk.mkAgg (by kernel_rfl) rfl (by kernel_rfl) (show Try.prog.underlying 54 = some (.struct _) from Try.underlying54) (by kernel_rfl) (by kernel_rfl) (fun h => by cases h)
theorem ty_56 : TyOk Try.prog T 56 ⟨false, [.l 60], [], 0, 24, false⟩ := TyOk.mkOne (c := .l 60) Try.underlying56 rfl (by kernel_rfl) rfl rfl (by kernel_rfl)
theorem ty_57 : TyOk Try.prog T 57 ⟨false, [.l 9], [], 0, 24, false⟩ := TyOk.mkOne (c := .l 9) Try.underlying57 rfl (by kernel_rfl) rfl rfl (by kernel_rfl)
theorem ty_58 : TyOk Try.prog T 58 ⟨false, [.l 114], [], 0, 24, false⟩ := TyOk.mkOne (c := .l 114) Try.underlying58 rfl (by kernel_rfl) rfl rfl (by kernel_rfl)
theorem ty_59 : TyOk Try.prog T 59 ⟨true, [.i .i64, .i .i64, .i .i64, .s, .l 60, .l 9, .l 114], [(0, 1), (1, 1), (2, 1), (3, 1), (4, 1), (5, 1), (6, 1)], 0, 112, false⟩ := TyOk.mkAgg (by kernel_rfl) rfl (by kernel_rfl) (show Try.prog.underlying 59 = some (.struct _) from Try.underlying59) (by kernel_rfl) (by kernel_rfl) (fun h => by cases h)
theorem ty_60 : TyOk Try.prog T 60 ⟨true, [.i .i64, .i .i64, .i .i64, .s, .l 60, .l 9, .l 114], [(0, 1), (1, 1), (2, 1), (3, 1), (4, 1), (5, 1), (6, 1)], 0, 112, false⟩ := TyOk.mkAgg (by kernel_rfl) rfl (by kernel_rfl) (show Try.prog.underlying 60 = some (.struct _) from Try.underlying60) (by kernel_rfl) (by kernel_rfl) (fun h => by cases h)
theorem ty_63 : TyOk Try.prog T 63 ⟨true, [.i .i64, .i .i64, .i .i64, .s, .i .i64, .i .i64, .i .i64, .s, .l 60, .l 9, .l 114], [(0, 1), (1, 1), (2, 1), (3, 1), (4, 7)], 0, 152, false⟩ := TyOk.mkAgg (by kernel_rfl) rfl (by kernel_rfl) (show Try.prog.underlying 63 = some (.struct _) from Try.underlying63) (by kernel_rfl) (by kernel_rfl) (fun h => by cases h)
theorem ty_64 : TyOk Try.prog T 64 ⟨true, [.i .i64, .i .i64, .i .i64, .s, .i .i64, .i .i64, .i .i64, .s, .l 60, .l 9, .l 114], [(0, 1), (1, 1), (2, 1), (3, 1), (4, 7)], 0, 152, false⟩ := TyOk.mkAgg (by kernel_rfl) rfl (by kernel_rfl) (show Try.prog.underlying 64 = some (.struct _) from Try.underlying64) (by kernel_rfl) (by kernel_rfl) (fun h => by cases h)
theorem ty_93 : TyOk Try.prog T 93 ⟨false, [.l 148], [], 0, 24, false⟩ := TyOk.mkOne (c := .l 148) Try.underlying93 rfl (by kernel_rfl) rfl rfl (by kernel_rfl)
theorem ty_94 : TyOk Try.prog T 94 ⟨true, [.i .i64, .l 148, .l 148], [(0, 1), (1, 1), (2, 1)], 0, 56, false⟩ := TyOk.mkAgg (by kernel_rfl) rfl (by kernel_rfl) (show Try.prog.underlying 94 = some (.struct _) from Try.underlying94) (by kernel_rfl) (by kernel_rfl) (fun h => by cases h)
theorem ty_95 : TyOk Try.prog T 95 ⟨true, [.i .i64, .l 148, .l 148], [(0, 1), (1, 1), (2, 1)], 0, 56, false⟩ := TyOk.mkAgg (by kernel_rfl) rfl (by kernel_rfl) (show Try.prog.underlying 95 = some (.struct _) from Try.underlying95) (by kernel_rfl) (by kernel_rfl) (fun h => by cases h)
theorem ty_105 : TyOk Try.prog T 105 ⟨false, [.l 108], [], 0, 24, false⟩ := TyOk.mkOne (c := .l 108) Try.underlying105 rfl (by kernel_rfl) rfl rfl (by kernel_rfl)
theorem ty_106 : TyOk Try.prog T 106 ⟨false, [.l 162], [], 0, 24, false⟩ := TyOk.mkOne (c := .l 162) Try.underlying106 rfl (by kernel_rfl) rfl rfl (by kernel_rfl)
theorem ty_107 : TyOk Try.prog T 107 ⟨true, [.i .i64, .i .i64, .i .i64, .s, .l 108, .l 9, .l 162], [(0, 1), (1, 1), (2, 1), (3, 1), (4, 1), (5, 1), (6, 1)], 0, 112, false⟩ := TyOk.mkAgg (by kernel_rfl) rfl (by kernel_rfl) (show Try.prog.underlying 107 = some (.struct _) from Try.underlying107) (by kernel_rfl) (by kernel_rfl) (fun h => by cases h)
theorem ty_108 : TyOk Try.prog T 108 ⟨true, [.i .i64, .i .i64, .i .i64, .s, .l 108, .l 9, .l 162], [(0, 1), (1, 1), (2, 1), (3, 1), (4, 1), (5, 1), (6, 1)], 0, 112, false⟩ := TyOk.mkAgg (by kernel_rfl) rfl (by kernel_rfl) (show Try.prog.underlying 108 = some (.struct _) from Try.underlying108) (by kernel_rfl) (by kernel_rfl) (fun h => by cases h)
theorem ty_109 : TyOk Try.prog T 109 ⟨true, [.i .i64, .i .i64, .i .i64, .s, .i .i64, .i .i64, .i .i64, .s, .l 108, .l 9, .l 162], [(0, 1), (1, 1), (2, 1), (3, 1), (4, 7)], 0, 152, false⟩ := TyOk.mkAgg (by kernel_rfl) rfl (by kernel_rfl) (show Try.prog.underlying 109 = some (.struct _) from Try.underlying109) (by kernel_rfl) (by kernel_rfl) (fun h => by cases h)
theorem ty_110 : TyOk Try.prog T 110 ⟨true, [.i .i64, .i .i64, .i .i64, .s, .i .i64, .i .i64, .i .i64, .s, .l 108, .l 9, .l 162], [(0, 1), (1, 1), (2, 1), (3, 1), (4, 7)], 0, 152, false⟩ := TyOk.mkAgg (by kernel_rfl) rfl (by kernel_rfl) (show Try.prog.underlying 110 = some (.struct _) from Try.underlying110) (by kernel_rfl) (by kernel_rfl) (fun h => by cases h)
theorem ty_111 : TyOk Try.prog T 111 ⟨false, [.l 3], [], 0, 24, false⟩ := TyOk.mkOne (c := .l 3) Try.underlying111 rfl (by kernel_rfl) rfl rfl (by kernel_rfl)
theorem ty_112 : TyOk Try.prog T 112 ⟨false, [.l 142], [], 0, 24, false⟩ := TyOk.mkOne (c := .l 142) Try.underlying112 rfl (by kernel_rfl) rfl rfl (by kernel_rfl)
theorem ty_113 : TyOk Try.prog T 113 ⟨true, [.l 3, .l 142], [(0, 1), (1, 1)], 0, 48, false⟩ := TyOk.mkAgg (by kernel_rfl) rfl (by kernel_rfl) (show Try.prog.underlying 113 = some (.struct _) from Try.underlying113) (by kernel_rfl) (by kernel_rfl) (fun h => by cases h)
theorem ty_114 : TyOk Try.prog T 114 ⟨true, [.l 3, .l 142], [(0, 1), (1, 1)], 0, 48, false⟩ := TyOk.mkAgg (by kernel_rfl) rfl (by kernel_rfl) (show Try.prog.underlying 114 = some (.struct _) from Try.underlying114) (by kernel_rfl) (by kernel_rfl) (fun h => by cases h)
theorem ty_118 : TyOk Try.prog T 118 ⟨false, [.l 5], [], 0, 24, false⟩ := TyOk.mkOne (c := .l 5) Try.underlying118 rfl (by kernel_rfl) rfl rfl (by kernel_rfl)
theorem ty_123 : TyOk Try.prog T 123 ⟨true, [.i .i64, .i .i64, .i .i64, .s, .s, .i .i64], [(0, 1), (1, 1), (2, 1), (3, 1), (4, 1), (5, 1)], 0, 64, false⟩ := TyOk.mkAgg (by kernel_rfl) rfl (by kernel_rfl) (show Try.prog.underlying 123 = some (.struct _) from Try.underlying123) (by kernel_rfl) (by kernel_rfl) (fun h => by cases h)
theorem eq_124 : EqFact Try.prog 124 [.i .i64, .i .i64, .i .i64, .s, .s, .i .i64] := by
  refine ⟨by kernel_rfl, fun w a b ha hb => ?_⟩
  match a, ha, b, hb with
  | [.i x0, .i x1, .i x2, .s x3, .s x4, .i x5], _, [.i y0, .i y1, .i y2, .s y3, .s y4, .i y5], _ =>
    have u3 := Try.underlying3
    have a3 := Try.isAgg3
    have z3 := Try.sizeOf3
    have u9 := Try.underlying9
    have a9 := Try.isAgg9
    have z9 := Try.sizeOf9
    have hS : Try.prog.underlying 124 = some (.struct (Try.prog.fieldsOf 124)) := by kernel_rfl
    have hp : Try.prog.stoodInHeld 124 = false := by kernel_rfl
    simp only [valsOf, valOf]
    rw [show (10000 : Nat) = 9999 + 1 from rfl, run_equalIn_agg w 9999 124 _ _ hS hp]
    simp only [Program.fieldsOf, Try.underlying124, eqDs, eqD]
    go_simp
    by_cases h0 : x0 = y0
    ·
      by_cases h1 : x1 = y1
      ·
        by_cases h2 : x2 = y2
        ·
          by_cases h3 : x3.toList = y3.toList
          ·
            by_cases h4 : x4.toList = y4.toList
            ·
              by_cases h5 : x5 = y5
              · simp [h0, h1, h2, h3, h4, h5]
              · simp [h0, h1, h2, h3, h4, h5]
            · simp [h0, h1, h2, h3, h4]
          · simp [h0, h1, h2, h3]
        · simp [h0, h1, h2]
      · simp [h0, h1]
    · simp [h0]
theorem ty_124 : TyOk Try.prog T 124 ⟨true, [.i .i64, .i .i64, .i .i64, .s, .s, .i .i64], [(0, 1), (1, 1), (2, 1), (3, 1), (4, 1), (5, 1)], 0, 64, true⟩ := TyOk.mkAgg (by kernel_rfl) rfl (by kernel_rfl) (show Try.prog.underlying 124 = some (.struct _) from Try.underlying124) (by kernel_rfl) (by kernel_rfl) (fun _ => eq_124)
theorem ty_125 : TyOk Try.prog T 125 ⟨true, [.s, .i .i64], [(0, 1), (1, 1)], 0, 24, false⟩ := TyOk.mkAgg (by kernel_rfl) rfl (by kernel_rfl) (show Try.prog.underlying 125 = some (.struct _) from Try.underlying125) (by kernel_rfl) (by kernel_rfl) (fun h => by cases h)
theorem eq_126 : EqFact Try.prog 126 [.s, .i .i64] := by
  refine ⟨by kernel_rfl, fun w a b ha hb => ?_⟩
  match a, ha, b, hb with
  | [.s x0, .i x1], _, [.s y0, .i y1], _ =>
    have u3 := Try.underlying3
    have a3 := Try.isAgg3
    have z3 := Try.sizeOf3
    have u9 := Try.underlying9
    have a9 := Try.isAgg9
    have z9 := Try.sizeOf9
    have hS : Try.prog.underlying 126 = some (.struct (Try.prog.fieldsOf 126)) := by kernel_rfl
    have hp : Try.prog.stoodInHeld 126 = false := by kernel_rfl
    simp only [valsOf, valOf]
    rw [show (10000 : Nat) = 9999 + 1 from rfl, run_equalIn_agg w 9999 126 _ _ hS hp]
    simp only [Program.fieldsOf, Try.underlying126, eqDs, eqD]
    go_simp
    by_cases h0 : x0.toList = y0.toList
    ·
      by_cases h1 : x1 = y1
      · simp [h0, h1]
      · simp [h0, h1]
    · simp [h0]
theorem ty_126 : TyOk Try.prog T 126 ⟨true, [.s, .i .i64], [(0, 1), (1, 1)], 0, 24, true⟩ := TyOk.mkAgg (by kernel_rfl) rfl (by kernel_rfl) (show Try.prog.underlying 126 = some (.struct _) from Try.underlying126) (by kernel_rfl) (by kernel_rfl) (fun _ => eq_126)
theorem ty_132 : TyOk Try.prog T 132 ⟨true, [.i .i64, .i .i64, .i .i64, .l 3, .i .i64, .i .i64, .i .i64, .s, .l 60, .l 9, .l 114, .b], [(0, 1), (1, 1), (2, 1), (3, 1), (4, 7), (11, 1)], 0, 168, false⟩ := TyOk.mkAgg (by kernel_rfl) rfl (by kernel_rfl) (show Try.prog.underlying 132 = some (.struct _) from Try.underlying132) (by kernel_rfl) (by kernel_rfl) (fun h => by cases h)
theorem ty_133 : TyOk Try.prog T 133 ⟨true, [.i .i64, .i .i64, .i .i64, .l 3, .i .i64, .i .i64, .i .i64, .s, .l 60, .l 9, .l 114, .b], [(0, 1), (1, 1), (2, 1), (3, 1), (4, 7), (11, 1)], 0, 168, false⟩ := TyOk.mkAgg (by kernel_rfl) rfl (by kernel_rfl) (show Try.prog.underlying 133 = some (.struct _) from Try.underlying133) (by kernel_rfl) (by kernel_rfl) (fun h => by cases h)
theorem ty_141 : TyOk Try.prog T 141 ⟨true, [.i .i64, .i .i64], [(0, 1), (1, 1)], 0, 16, false⟩ := TyOk.mkAgg (by kernel_rfl) rfl (by kernel_rfl) (show Try.prog.underlying 141 = some (.struct _) from Try.underlying141) (by kernel_rfl) (by kernel_rfl) (fun h => by cases h)
theorem eq_142 : EqFact Try.prog 142 [.i .i64, .i .i64] := by
  refine ⟨by kernel_rfl, fun w a b ha hb => ?_⟩
  match a, ha, b, hb with
  | [.i x0, .i x1], _, [.i y0, .i y1], _ =>
    have u3 := Try.underlying3
    have a3 := Try.isAgg3
    have z3 := Try.sizeOf3
    have hS : Try.prog.underlying 142 = some (.struct (Try.prog.fieldsOf 142)) := by kernel_rfl
    have hp : Try.prog.stoodInHeld 142 = false := by kernel_rfl
    simp only [valsOf, valOf]
    rw [show (10000 : Nat) = 9999 + 1 from rfl, run_equalIn_agg w 9999 142 _ _ hS hp]
    simp only [Program.fieldsOf, Try.underlying142, eqDs, eqD]
    go_simp
    by_cases h0 : x0 = y0
    ·
      by_cases h1 : x1 = y1
      · simp [h0, h1]
      · simp [h0, h1]
    · simp [h0]
theorem ty_142 : TyOk Try.prog T 142 ⟨true, [.i .i64, .i .i64], [(0, 1), (1, 1)], 0, 16, true⟩ := TyOk.mkAgg (by kernel_rfl) rfl (by kernel_rfl) (show Try.prog.underlying 142 = some (.struct _) from Try.underlying142) (by kernel_rfl) (by kernel_rfl) (fun _ => eq_142)
theorem ty_147 : TyOk Try.prog T 147 ⟨true, [.i .i64, .i .i64, .i .i64, .i .i64, .i .i64, .s, .s, .i .i64], [(0, 1), (1, 1), (2, 6)], 0, 80, false⟩ := TyOk.mkAgg (by kernel_rfl) rfl (by kernel_rfl) (show Try.prog.underlying 147 = some (.struct _) from Try.underlying147) (by kernel_rfl) (by kernel_rfl) (fun h => by cases h)
theorem eq_148 : EqFact Try.prog 148 [.i .i64, .i .i64, .i .i64, .i .i64, .i .i64, .s, .s, .i .i64] := by
  refine ⟨by kernel_rfl, fun w a b ha hb => ?_⟩
  match a, ha, b, hb with
  | [.i x0, .i x1, .i x2, .i x3, .i x4, .s x5, .s x6, .i x7], _, [.i y0, .i y1, .i y2, .i y3, .i y4, .s y5, .s y6, .i y7], _ =>
    have u3 := Try.underlying3
    have a3 := Try.isAgg3
    have z3 := Try.sizeOf3
    have u9 := Try.underlying9
    have a9 := Try.isAgg9
    have z9 := Try.sizeOf9
    have u124 := Try.underlying124
    have a124 := Try.isAgg124
    have z124 := Try.sizeOf124
    have hS : Try.prog.underlying 148 = some (.struct (Try.prog.fieldsOf 148)) := by kernel_rfl
    have hp : Try.prog.stoodInHeld 148 = false := by kernel_rfl
    have hS124 : Try.prog.underlying 124 = some (.struct (Try.prog.fieldsOf 124)) := by kernel_rfl
    have hp124 : Try.prog.stoodInHeld 124 = false := by kernel_rfl
    simp only [valsOf, valOf]
    rw [show (10000 : Nat) = 9999 + 1 from rfl, run_equalIn_agg w 9999 148 _ _ hS hp]
    simp only [Program.fieldsOf, Try.underlying148, eqDs, eqD]
    go_simp
    by_cases h0 : x0 = y0
    ·
      by_cases h1 : x1 = y1
      ·
        by_cases h2 : x2 = y2
        ·
          by_cases h3 : x3 = y3
          ·
            by_cases h4 : x4 = y4
            ·
              by_cases h5 : x5.toList = y5.toList
              ·
                by_cases h6 : x6.toList = y6.toList
                ·
                  by_cases h7 : x7 = y7
                  · simp [h0, h1, h2, h3, h4, h5, h6, h7]
                  · simp [h0, h1, h2, h3, h4, h5, h6, h7]
                · simp [h0, h1, h2, h3, h4, h5, h6]
              · simp [h0, h1, h2, h3, h4, h5]
            · simp [h0, h1, h2, h3, h4]
          · simp [h0, h1, h2, h3]
        · simp [h0, h1, h2]
      · simp [h0, h1]
    · simp [h0]
theorem ty_148 : TyOk Try.prog T 148 ⟨true, [.i .i64, .i .i64, .i .i64, .i .i64, .i .i64, .s, .s, .i .i64], [(0, 1), (1, 1), (2, 6)], 0, 80, true⟩ := TyOk.mkAgg (by kernel_rfl) rfl (by kernel_rfl) (show Try.prog.underlying 148 = some (.struct _) from Try.underlying148) (by kernel_rfl) (by kernel_rfl) (fun _ => eq_148)
theorem ty_160 : TyOk Try.prog T 160 ⟨false, [.l 172], [], 0, 24, false⟩ := TyOk.mkOne (c := .l 172) Try.underlying160 rfl (by kernel_rfl) rfl rfl (by kernel_rfl)
theorem ty_161 : TyOk Try.prog T 161 ⟨true, [.l 3, .l 172], [(0, 1), (1, 1)], 0, 48, false⟩ := TyOk.mkAgg (by kernel_rfl) rfl (by kernel_rfl) (show Try.prog.underlying 161 = some (.struct _) from Try.underlying161) (by kernel_rfl) (by kernel_rfl) (fun h => by cases h)
theorem ty_162 : TyOk Try.prog T 162 ⟨true, [.l 3, .l 172], [(0, 1), (1, 1)], 0, 48, false⟩ := TyOk.mkAgg (by kernel_rfl) rfl (by kernel_rfl) (show Try.prog.underlying 162 = some (.struct _) from Try.underlying162) (by kernel_rfl) (by kernel_rfl) (fun h => by cases h)
theorem eq_172 : EqFact Try.prog 172 [.i .i64, .i .i64] := by
  refine ⟨by kernel_rfl, fun w a b ha hb => ?_⟩
  match a, ha, b, hb with
  | [.i x0, .i x1], _, [.i y0, .i y1], _ =>
    have u3 := Try.underlying3
    have a3 := Try.isAgg3
    have z3 := Try.sizeOf3
    have hS : Try.prog.underlying 172 = some (.struct (Try.prog.fieldsOf 172)) := by kernel_rfl
    have hp : Try.prog.stoodInHeld 172 = false := by kernel_rfl
    simp only [valsOf, valOf]
    rw [show (10000 : Nat) = 9999 + 1 from rfl, run_equalIn_agg w 9999 172 _ _ hS hp]
    simp only [Program.fieldsOf, Try.underlying172, eqDs, eqD]
    go_simp
    by_cases h0 : x0 = y0
    ·
      by_cases h1 : x1 = y1
      · simp [h0, h1]
      · simp [h0, h1]
    · simp [h0]
theorem ty_172 : TyOk Try.prog T 172 ⟨true, [.i .i64, .i .i64], [(0, 1), (1, 1)], 0, 16, true⟩ := TyOk.mkAgg (by kernel_rfl) rfl (by kernel_rfl) (show Try.prog.underlying 172 = some (.struct _) from Try.underlying172) (by kernel_rfl) (by kernel_rfl) (fun _ => eq_172)
theorem ty_181 : TyOk Try.prog T 181 ⟨false, [.i .u32], [], 0, 4, false⟩ := TyOk.mkOne (c := .i .u32) Try.underlying181 rfl (by kernel_rfl) rfl rfl (by kernel_rfl)
theorem ty_182 : TyOk Try.prog T 182 ⟨false, [.i .u8], [], 0, 1, false⟩ := TyOk.mkOne (c := .i .u8) Try.underlying182 rfl (by kernel_rfl) rfl rfl (by kernel_rfl)
theorem ty_183 : TyOk Try.prog T 183 ⟨false, [.i .u8], [], 0, 1, false⟩ := TyOk.mkOne (c := .i .u8) Try.underlying183 rfl (by kernel_rfl) rfl rfl (by kernel_rfl)
theorem ty_186 : TyOk Try.prog T 186 ⟨false, [.i .i32], [], 0, 4, false⟩ := TyOk.mkOne (c := .i .i32) Try.underlying186 rfl (by kernel_rfl) rfl rfl (by kernel_rfl)
theorem ty_187 : TyOk Try.prog T 187 ⟨false, [.i .i32], [], 0, 4, false⟩ := TyOk.mkOne (c := .i .i32) Try.underlying187 rfl (by kernel_rfl) rfl rfl (by kernel_rfl)
theorem tabT : TabOk Try.prog T := tabOk fun p hp => by
  simp only [tab, List.mem_cons, List.not_mem_nil, or_false] at hp
  rcases hp with rfl | rfl | rfl | rfl | rfl | rfl | rfl | rfl | rfl | rfl | rfl | rfl | rfl | rfl | rfl | rfl | rfl | rfl | rfl | rfl | rfl | rfl | rfl | rfl | rfl | rfl | rfl | rfl | rfl | rfl | rfl | rfl | rfl | rfl | rfl | rfl | rfl | rfl | rfl | rfl | rfl | rfl | rfl | rfl | rfl | rfl | rfl | rfl | rfl | rfl | rfl | rfl | rfl | rfl | rfl | rfl | rfl | rfl | rfl | rfl | rfl | rfl | rfl | rfl | rfl | rfl | rfl | rfl | rfl | rfl | rfl | rfl | rfl | rfl | rfl | rfl
  · exact ty_2
  · exact ty_3
  · exact ty_4
  · exact ty_5
  · exact ty_6
  · exact ty_7
  · exact ty_8
  · exact ty_9
  · exact ty_10
  · exact ty_11
  · exact ty_12
  · exact ty_13
  · exact ty_14
  · exact ty_21
  · exact ty_22
  · exact ty_24
  · exact ty_30
  · exact ty_31
  · exact ty_32
  · exact ty_33
  · exact ty_34
  · exact ty_35
  · exact ty_36
  · exact ty_37
  · exact ty_38
  · exact ty_39
  · exact ty_40
  · exact ty_41
  · exact ty_42
  · exact ty_43
  · exact ty_49
  · exact ty_50
  · exact ty_51
  · exact ty_52
  · exact ty_53
  · exact ty_54
  · exact ty_56
  · exact ty_57
  · exact ty_58
  · exact ty_59
  · exact ty_60
  · exact ty_63
  · exact ty_64
  · exact ty_93
  · exact ty_94
  · exact ty_95
  · exact ty_105
  · exact ty_106
  · exact ty_107
  · exact ty_108
  · exact ty_109
  · exact ty_110
  · exact ty_111
  · exact ty_112
  · exact ty_113
  · exact ty_114
  · exact ty_118
  · exact ty_123
  · exact ty_124
  · exact ty_125
  · exact ty_126
  · exact ty_132
  · exact ty_133
  · exact ty_141
  · exact ty_142
  · exact ty_147
  · exact ty_148
  · exact ty_160
  · exact ty_161
  · exact ty_162
  · exact ty_172
  · exact ty_181
  · exact ty_182
  · exact ty_183
  · exact ty_186
  · exact ty_187
theorem mixed : Try.prog.follows .mixedOrders = true := by kernel_rfl
end Go.Proofs.Ytidjlboppokloaa.Ab
