/- The table of the types whose values are data: printed by a program from the types as the model has them. -/
import Derived.Test.YtodddilaniojgaaGreatCK6
import Derived.Test.YtodddilaniojgaaGreatCFa
import Derived.Laws.StructEq
namespace Go.Proofs.YtodddilaniojgaaGreat.Ab
open Go.RowKit
set_option linter.unusedVariables false
set_option maxRecDepth 100000
def tab : List (TypeId × Ty) := [
  (2, ⟨false, [.i .i64], [], 0, 8, false⟩),
  (3, ⟨false, [.i .i64], [], 0, 8, false⟩),
  (4, ⟨false, [.b], [], 0, 1, false⟩),
  (5, ⟨false, [.i .u8], [], 0, 1, false⟩),
  (6, ⟨false, [.i .u8], [], 0, 1, false⟩),
  (7, ⟨true, [.i .i64, .i .i64, .b, .i .u8], [(0, 1), (1, 1), (2, 1), (3, 1)], 0, 24, false⟩),
  (8, ⟨true, [.i .i64, .i .i64, .b, .i .u8], [(0, 1), (1, 1), (2, 1), (3, 1)], 0, 24, false⟩),
  (9, ⟨false, [.s], [], 0, 16, false⟩),
  (10, ⟨false, [.s], [], 0, 16, false⟩),
  (11, ⟨false, [.s], [], 0, 16, false⟩),
  (12, ⟨false, [.i .u64], [], 0, 8, false⟩),
  (13, ⟨true, [.s, .i .u64], [(0, 1), (1, 1)], 0, 24, false⟩),
  (14, ⟨true, [.s, .i .u64], [(0, 1), (1, 1)], 0, 24, false⟩),
  (21, ⟨false, [.i .i32], [], 0, 4, false⟩),
  (22, ⟨false, [.l 5], [], 0, 24, false⟩),
  (24, ⟨false, [.l 72], [], 0, 24, false⟩),
  (25, ⟨true, [.l 72], [(0, 1)], 0, 24, false⟩),
  (26, ⟨true, [.l 72], [(0, 1)], 0, 24, false⟩),
  (27, ⟨false, [.l 55], [], 0, 24, false⟩),
  (28, ⟨true, [.l 72, .l 55, .i .i64], [(0, 1), (1, 1), (2, 1)], 0, 56, false⟩),
  (29, ⟨true, [.l 72, .l 55, .i .i64], [(0, 1), (1, 1), (2, 1)], 0, 56, false⟩),
  (30, ⟨false, [.l 82], [], 0, 24, false⟩),
  (42, ⟨false, [.l 3], [], 0, 24, false⟩),
  (54, ⟨true, [.i .i64, .l 82, .l 82], [(0, 1), (1, 1), (2, 1)], 0, 56, false⟩),
  (55, ⟨true, [.i .i64, .l 82, .l 82], [(0, 1), (1, 1), (2, 1)], 0, 56, false⟩),
  (59, ⟨false, [.l 118], [], 0, 24, false⟩),
  (60, ⟨true, [.i .i64, .i .i64, .l 118], [(0, 1), (1, 1), (2, 1)], 0, 40, false⟩),
  (61, ⟨true, [.i .i64, .i .i64, .l 118], [(0, 1), (1, 1), (2, 1)], 0, 40, false⟩),
  (62, ⟨false, [.l 121], [], 0, 24, false⟩),
  (63, ⟨false, [.l 105], [], 0, 24, false⟩),
  (64, ⟨true, [.l 72, .i .i64, .i .i64, .l 118, .l 121, .l 105, .i .i64, .i .i64, .i .i64], [(0, 1), (1, 3), (4, 1), (5, 1), (6, 1), (7, 1), (8, 1)], 0, 136, false⟩),
  (65, ⟨true, [.l 72, .i .i64, .i .i64, .l 118, .l 121, .l 105, .i .i64, .i .i64, .i .i64], [(0, 1), (1, 3), (4, 1), (5, 1), (6, 1), (7, 1), (8, 1)], 0, 136, false⟩),
  (66, ⟨true, [.l 72, .i .i64, .i .i64, .l 118, .l 121, .l 105, .i .i64, .i .i64, .i .i64, .l 72, .l 55, .i .i64], [(0, 9), (9, 3)], 0, 192, false⟩),
  (67, ⟨true, [.l 72, .i .i64, .i .i64, .l 118, .l 121, .l 105, .i .i64, .i .i64, .i .i64, .l 72, .l 55, .i .i64], [(0, 9), (9, 3)], 0, 192, false⟩),
  (71, ⟨true, [.i .i64, .i .i64, .i .i64, .s, .s, .i .i64], [(0, 1), (1, 1), (2, 1), (3, 1), (4, 1), (5, 1)], 0, 64, false⟩),
  (72, ⟨true, [.i .i64, .i .i64, .i .i64, .s, .s, .i .i64], [(0, 1), (1, 1), (2, 1), (3, 1), (4, 1), (5, 1)], 0, 64, true⟩),
  (74, ⟨true, [.l 5, .i .i64, .i .i64], [(0, 1), (1, 1), (2, 1)], 0, 40, false⟩),
  (75, ⟨true, [.l 5, .i .i64, .i .i64], [(0, 1), (1, 1), (2, 1)], 0, 40, false⟩),
  (81, ⟨true, [.i .i64, .i .i64, .i .i64, .i .i64, .i .i64, .s, .s, .i .i64], [(0, 1), (1, 1), (2, 6)], 0, 80, false⟩),
  (82, ⟨true, [.i .i64, .i .i64, .i .i64, .i .i64, .i .i64, .s, .s, .i .i64], [(0, 1), (1, 1), (2, 6)], 0, 80, true⟩),
  (91, ⟨false, [.l 9], [], 0, 24, false⟩),
  (100, ⟨false, [.l 103], [], 0, 24, false⟩),
  (101, ⟨false, [.l 135], [], 0, 24, false⟩),
  (102, ⟨true, [.i .i64, .i .i64, .i .i64, .s, .l 103, .l 9, .l 135], [(0, 1), (1, 1), (2, 1), (3, 1), (4, 1), (5, 1), (6, 1)], 0, 112, false⟩),
  (103, ⟨true, [.i .i64, .i .i64, .i .i64, .s, .l 103, .l 9, .l 135], [(0, 1), (1, 1), (2, 1), (3, 1), (4, 1), (5, 1), (6, 1)], 0, 112, false⟩),
  (104, ⟨true, [.i .i64, .i .i64, .i .i64, .l 3, .i .i64, .i .i64, .i .i64, .s, .l 103, .l 9, .l 135, .b], [(0, 1), (1, 1), (2, 1), (3, 1), (4, 7), (11, 1)], 0, 168, false⟩),
  (105, ⟨true, [.i .i64, .i .i64, .i .i64, .l 3, .i .i64, .i .i64, .i .i64, .s, .l 103, .l 9, .l 135, .b], [(0, 1), (1, 1), (2, 1), (3, 1), (4, 7), (11, 1)], 0, 168, false⟩),
  (111, ⟨false, [.i .u64], [], 0, 8, false⟩),
  (117, ⟨true, [.s, .i .i64], [(0, 1), (1, 1)], 0, 24, false⟩),
  (118, ⟨true, [.s, .i .i64], [(0, 1), (1, 1)], 0, 24, true⟩),
  (119, ⟨false, [.l 131], [], 0, 24, false⟩),
  (120, ⟨true, [.i .i64, .i .i64, .l 131], [(0, 1), (1, 1), (2, 1)], 0, 40, false⟩),
  (121, ⟨true, [.i .i64, .i .i64, .l 131], [(0, 1), (1, 1), (2, 1)], 0, 40, false⟩),
  (124, ⟨false, [.l 126], [], 0, 24, false⟩),
  (125, ⟨true, [.i .i64, .i .i64, .s, .l 126], [(0, 1), (1, 1), (2, 1), (3, 1)], 0, 56, false⟩),
  (126, ⟨true, [.i .i64, .i .i64, .s, .l 126], [(0, 1), (1, 1), (2, 1), (3, 1)], 0, 56, false⟩),
  (130, ⟨true, [.i .i64, .i .i64, .i .i64, .s, .i .i64, .i .i64, .i .i64, .s, .l 103, .l 9, .l 135], [(0, 1), (1, 1), (2, 1), (3, 1), (4, 7)], 0, 152, false⟩),
  (131, ⟨true, [.i .i64, .i .i64, .i .i64, .s, .i .i64, .i .i64, .i .i64, .s, .l 103, .l 9, .l 135], [(0, 1), (1, 1), (2, 1), (3, 1), (4, 7)], 0, 152, false⟩),
  (133, ⟨false, [.l 148], [], 0, 24, false⟩),
  (134, ⟨true, [.l 3, .l 148], [(0, 1), (1, 1)], 0, 48, false⟩),
  (135, ⟨true, [.l 3, .l 148], [(0, 1), (1, 1)], 0, 48, false⟩),
  (147, ⟨true, [.i .i64, .i .i64], [(0, 1), (1, 1)], 0, 16, false⟩),
  (148, ⟨true, [.i .i64, .i .i64], [(0, 1), (1, 1)], 0, 16, true⟩),
  (161, ⟨false, [.i .u32], [], 0, 4, false⟩),
  (162, ⟨false, [.i .u8], [], 0, 1, false⟩),
  (163, ⟨false, [.i .u8], [], 0, 1, false⟩),
  (166, ⟨false, [.i .i32], [], 0, 4, false⟩),
  (167, ⟨false, [.i .i32], [], 0, 4, false⟩)]
abbrev T : Tab := tabOf tab
theorem ty_2 : TyOk Tryz.prog T 2 ⟨false, [.i .i64], [], 0, 8, false⟩ := TyOk.mkOne (c := .i .i64) Tryz.underlying2 rfl (by kernel_rfl) rfl rfl (by kernel_rfl)
theorem ty_3 : TyOk Tryz.prog T 3 ⟨false, [.i .i64], [], 0, 8, false⟩ := TyOk.mkOne (c := .i .i64) Tryz.underlying3 rfl (by kernel_rfl) rfl rfl (by kernel_rfl)
theorem ty_4 : TyOk Tryz.prog T 4 ⟨false, [.b], [], 0, 1, false⟩ := TyOk.mkOne (c := .b) Tryz.underlying4 rfl (by kernel_rfl) rfl rfl (by kernel_rfl)
theorem ty_5 : TyOk Tryz.prog T 5 ⟨false, [.i .u8], [], 0, 1, false⟩ := TyOk.mkOne (c := .i .u8) Tryz.underlying5 rfl (by kernel_rfl) rfl rfl (by kernel_rfl)
theorem ty_6 : TyOk Tryz.prog T 6 ⟨false, [.i .u8], [], 0, 1, false⟩ := TyOk.mkOne (c := .i .u8) Tryz.underlying6 rfl (by kernel_rfl) rfl rfl (by kernel_rfl)
theorem ty_7 : TyOk Tryz.prog T 7 ⟨true, [.i .i64, .i .i64, .b, .i .u8], [(0, 1), (1, 1), (2, 1), (3, 1)], 0, 24, false⟩ := TyOk.mkAgg (by kernel_rfl) rfl (by kernel_rfl) (show Tryz.prog.underlying 7 = some (.struct _) from Tryz.underlying7) (by kernel_rfl) (by kernel_rfl) (fun h => by cases h)
theorem ty_8 : TyOk Tryz.prog T 8 ⟨true, [.i .i64, .i .i64, .b, .i .u8], [(0, 1), (1, 1), (2, 1), (3, 1)], 0, 24, false⟩ := TyOk.mkAgg (by kernel_rfl) rfl (by kernel_rfl) (show Tryz.prog.underlying 8 = some (.struct _) from Tryz.underlying8) (by kernel_rfl) (by kernel_rfl) (fun h => by cases h)
theorem ty_9 : TyOk Tryz.prog T 9 ⟨false, [.s], [], 0, 16, false⟩ := TyOk.mkOne (c := .s) Tryz.underlying9 rfl (by kernel_rfl) rfl rfl (by kernel_rfl)
theorem ty_10 : TyOk Tryz.prog T 10 ⟨false, [.s], [], 0, 16, false⟩ := TyOk.mkOne (c := .s) Tryz.underlying10 rfl (by kernel_rfl) rfl rfl (by kernel_rfl)
theorem ty_11 : TyOk Tryz.prog T 11 ⟨false, [.s], [], 0, 16, false⟩ := TyOk.mkOne (c := .s) Tryz.underlying11 rfl (by kernel_rfl) rfl rfl (by kernel_rfl)
theorem ty_12 : TyOk Tryz.prog T 12 ⟨false, [.i .u64], [], 0, 8, false⟩ := TyOk.mkOne (c := .i .u64) Tryz.underlying12 rfl (by kernel_rfl) rfl rfl (by kernel_rfl)
theorem ty_13 : TyOk Tryz.prog T 13 ⟨true, [.s, .i .u64], [(0, 1), (1, 1)], 0, 24, false⟩ := TyOk.mkAgg (by kernel_rfl) rfl (by kernel_rfl) (show Tryz.prog.underlying 13 = some (.struct _) from Tryz.underlying13) (by kernel_rfl) (by kernel_rfl) (fun h => by cases h)
theorem ty_14 : TyOk Tryz.prog T 14 ⟨true, [.s, .i .u64], [(0, 1), (1, 1)], 0, 24, false⟩ := TyOk.mkAgg (by kernel_rfl) rfl (by kernel_rfl) (show Tryz.prog.underlying 14 = some (.struct _) from Tryz.underlying14) (by kernel_rfl) (by kernel_rfl) (fun h => by cases h)
theorem ty_21 : TyOk Tryz.prog T 21 ⟨false, [.i .i32], [], 0, 4, false⟩ := TyOk.mkOne (c := .i .i32) Tryz.underlying21 rfl (by kernel_rfl) rfl rfl (by kernel_rfl)
theorem ty_22 : TyOk Tryz.prog T 22 ⟨false, [.l 5], [], 0, 24, false⟩ := TyOk.mkOne (c := .l 5) Tryz.underlying22 rfl (by kernel_rfl) rfl rfl (by kernel_rfl)
theorem ty_24 : TyOk Tryz.prog T 24 ⟨false, [.l 72], [], 0, 24, false⟩ := TyOk.mkOne (c := .l 72) Tryz.underlying24 rfl (by kernel_rfl) rfl rfl (by kernel_rfl)
theorem ty_25 : TyOk Tryz.prog T 25 ⟨true, [.l 72], [(0, 1)], 0, 24, false⟩ := TyOk.mkAgg (by kernel_rfl) rfl (by kernel_rfl) (show Tryz.prog.underlying 25 = some (.struct _) from Tryz.underlying25) (by kernel_rfl) (by kernel_rfl) (fun h => by cases h)
theorem ty_26 : TyOk Tryz.prog T 26 ⟨true, [.l 72], [(0, 1)], 0, 24, false⟩ := TyOk.mkAgg (by kernel_rfl) rfl (by kernel_rfl) (show Tryz.prog.underlying 26 = some (.struct _) from Tryz.underlying26) (by kernel_rfl) (by kernel_rfl) (fun h => by cases h)
theorem ty_27 : TyOk Tryz.prog T 27 ⟨false, [.l 55], [], 0, 24, false⟩ := TyOk.mkOne (c := .l 55) Tryz.underlying27 rfl (by kernel_rfl) rfl rfl (by kernel_rfl)
theorem ty_28 : TyOk Tryz.prog T 28 ⟨true, [.l 72, .l 55, .i .i64], [(0, 1), (1, 1), (2, 1)], 0, 56, false⟩ := TyOk.mkAgg (by kernel_rfl) rfl (by kernel_rfl) (show Tryz.prog.underlying 28 = some (.struct _) from Tryz.underlying28) (by kernel_rfl) (by kernel_rfl) (fun h => by cases h)
theorem ty_29 : TyOk Tryz.prog T 29 ⟨true, [.l 72, .l 55, .i .i64], [(0, 1), (1, 1), (2, 1)], 0, 56, false⟩ := TyOk.mkAgg (by kernel_rfl) rfl (by kernel_rfl) (show Tryz.prog.underlying 29 = some (.struct _) from Tryz.underlying29) (by kernel_rfl) (by kernel_rfl) (fun h => by cases h)
theorem ty_30 : TyOk Tryz.prog T 30 ⟨false, [.l 82], [], 0, 24, false⟩ := TyOk.mkOne (c := .l 82) Tryz.underlying30 rfl (by kernel_rfl) rfl rfl (by kernel_rfl)
theorem ty_42 : TyOk Tryz.prog T 42 ⟨false, [.l 3], [], 0, 24, false⟩ := TyOk.mkOne (c := .l 3) Tryz.underlying42 rfl (by kernel_rfl) rfl rfl (by kernel_rfl)
theorem ty_54 : TyOk Tryz.prog T 54 ⟨true, [.i .i64, .l 82, .l 82], [(0, 1), (1, 1), (2, 1)], 0, 56, false⟩ := TyOk.mkAgg (by kernel_rfl) rfl (by kernel_rfl) (show Tryz.prog.underlying 54 = some (.struct _) from Tryz.underlying54) (by kernel_rfl) (by kernel_rfl) (fun h => by cases h)
theorem ty_55 : TyOk Tryz.prog T 55 ⟨true, [.i .i64, .l 82, .l 82], [(0, 1), (1, 1), (2, 1)], 0, 56, false⟩ := TyOk.mkAgg (by kernel_rfl) rfl (by kernel_rfl) (show Tryz.prog.underlying 55 = some (.struct _) from Tryz.underlying55) (by kernel_rfl) (by kernel_rfl) (fun h => by cases h)
theorem ty_59 : TyOk Tryz.prog T 59 ⟨false, [.l 118], [], 0, 24, false⟩ := TyOk.mkOne (c := .l 118) Tryz.underlying59 rfl (by kernel_rfl) rfl rfl (by kernel_rfl)
theorem ty_60 : TyOk Tryz.prog T 60 ⟨true, [.i .i64, .i .i64, .l 118], [(0, 1), (1, 1), (2, 1)], 0, 40, false⟩ := TyOk.mkAgg (by kernel_rfl) rfl (by kernel_rfl) (show Tryz.prog.underlying 60 = some (.struct _) from Tryz.underlying60) (by kernel_rfl) (by kernel_rfl) (fun h => by cases h)
theorem ty_61 : TyOk Tryz.prog T 61 ⟨true, [.i .i64, .i .i64, .l 118], [(0, 1), (1, 1), (2, 1)], 0, 40, false⟩ := TyOk.mkAgg (by kernel_rfl) rfl (by kernel_rfl) (show Tryz.prog.underlying 61 = some (.struct _) from Tryz.underlying61) (by kernel_rfl) (by kernel_rfl) (fun h => by cases h)
theorem ty_62 : TyOk Tryz.prog T 62 ⟨false, [.l 121], [], 0, 24, false⟩ := TyOk.mkOne (c := .l 121) Tryz.underlying62 rfl (by kernel_rfl) rfl rfl (by kernel_rfl)
theorem ty_63 : TyOk Tryz.prog T 63 ⟨false, [.l 105], [], 0, 24, false⟩ := TyOk.mkOne (c := .l 105) Tryz.underlying63 rfl (by kernel_rfl) rfl rfl (by kernel_rfl)
theorem ty_64 : TyOk Tryz.prog T 64 ⟨true, [.l 72, .i .i64, .i .i64, .l 118, .l 121, .l 105, .i .i64, .i .i64, .i .i64], [(0, 1), (1, 3), (4, 1), (5, 1), (6, 1), (7, 1), (8, 1)], 0, 136, false⟩ := TyOk.mkAgg (by kernel_rfl) rfl (by kernel_rfl) (show Tryz.prog.underlying 64 = some (.struct _) from Tryz.underlying64) (by kernel_rfl) (by kernel_rfl) (fun h => by cases h)
theorem ty_65 : TyOk Tryz.prog T 65 ⟨true, [.l 72, .i .i64, .i .i64, .l 118, .l 121, .l 105, .i .i64, .i .i64, .i .i64], [(0, 1), (1, 3), (4, 1), (5, 1), (6, 1), (7, 1), (8, 1)], 0, 136, false⟩ := TyOk.mkAgg (by kernel_rfl) rfl (by kernel_rfl) (show Tryz.prog.underlying 65 = some (.struct _) from Tryz.underlying65) (by kernel_rfl) (by kernel_rfl) (fun h => by cases h)
theorem ty_66 : TyOk Tryz.prog T 66 ⟨true, [.l 72, .i .i64, .i .i64, .l 118, .l 121, .l 105, .i .i64, .i .i64, .i .i64, .l 72, .l 55, .i .i64], [(0, 9), (9, 3)], 0, 192, false⟩ := TyOk.mkAgg (by kernel_rfl) rfl (by kernel_rfl) (show Tryz.prog.underlying 66 = some (.struct _) from Tryz.underlying66) (by kernel_rfl) (by kernel_rfl) (fun h => by cases h)
theorem ty_67 : TyOk Tryz.prog T 67 ⟨true, [.l 72, .i .i64, .i .i64, .l 118, .l 121, .l 105, .i .i64, .i .i64, .i .i64, .l 72, .l 55, .i .i64], [(0, 9), (9, 3)], 0, 192, false⟩ := TyOk.mkAgg (by kernel_rfl) rfl (by kernel_rfl) (show Tryz.prog.underlying 67 = some (.struct _) from Tryz.underlying67) (by kernel_rfl) (by kernel_rfl) (fun h => by cases h)
theorem ty_71 : TyOk Tryz.prog T 71 ⟨true, [.i .i64, .i .i64, .i .i64, .s, .s, .i .i64], [(0, 1), (1, 1), (2, 1), (3, 1), (4, 1), (5, 1)], 0, 64, false⟩ := TyOk.mkAgg (by kernel_rfl) rfl (by kernel_rfl) (show Tryz.prog.underlying 71 = some (.struct _) from Tryz.underlying71) (by kernel_rfl) (by kernel_rfl) (fun h => by cases h)
theorem eq_72 : EqFact Tryz.prog 72 [.i .i64, .i .i64, .i .i64, .s, .s, .i .i64] := by
  refine ⟨by kernel_rfl, fun w a b ha hb => ?_⟩
  match a, ha, b, hb with
  | [.i x0, .i x1, .i x2, .s x3, .s x4, .i x5], _, [.i y0, .i y1, .i y2, .s y3, .s y4, .i y5], _ =>
    have u3 := Tryz.underlying3
    have a3 := Tryz.isAgg3
    have z3 := Tryz.sizeOf3
    have u9 := Tryz.underlying9
    have a9 := Tryz.isAgg9
    have z9 := Tryz.sizeOf9
    have hS : Tryz.prog.underlying 72 = some (.struct (Tryz.prog.fieldsOf 72)) := by kernel_rfl
    have hp : Tryz.prog.stoodInHeld 72 = false := by kernel_rfl
    simp only [valsOf, valOf]
    rw [show (10000 : Nat) = 9999 + 1 from rfl, run_equalIn_agg w 9999 72 _ _ hS hp]
    simp only [Program.fieldsOf, Tryz.underlying72, eqDs, eqD]
    go_simp
    by_cases h0 : x0 = y0
    ·
      by_cases h1 : x1 = y1
      ·
        by_cases h2 : x2 = y2
        ·
          by_cases h3 : x3.toList = y3.toList
          ·
            by_cases h4 : x4.toList = y4.toList
            ·
              by_cases h5 : x5 = y5
              · simp [h0, h1, h2, h3, h4, h5]
              · simp [h0, h1, h2, h3, h4, h5]
            · simp [h0, h1, h2, h3, h4]
          · simp [h0, h1, h2, h3]
        · simp [h0, h1, h2]
      · simp [h0, h1]
    · simp [h0]
theorem ty_72 : TyOk Tryz.prog T 72 ⟨true, [.i .i64, .i .i64, .i .i64, .s, .s, .i .i64], [(0, 1), (1, 1), (2, 1), (3, 1), (4, 1), (5, 1)], 0, 64, true⟩ := TyOk.mkAgg (by kernel_rfl) rfl (by kernel_rfl) (show Tryz.prog.underlying 72 = some (.struct _) from Tryz.underlying72) (by kernel_rfl) (by kernel_rfl) (fun _ => eq_72)
theorem ty_74 : TyOk Tryz.prog T 74 ⟨true, [.l 5, .i .i64, .i .i64], [(0, 1), (1, 1), (2, 1)], 0, 40, false⟩ := TyOk.mkAgg (by kernel_rfl) rfl (by kernel_rfl) (show Tryz.prog.underlying 74 = some (.struct _) from Tryz.underlying74) (by kernel_rfl) (by kernel_rfl) (fun h => by cases h)
theorem ty_75 : TyOk Tryz.prog T 75 ⟨true, [.l 5, .i .i64, .i .i64], [(0, 1), (1, 1), (2, 1)], 0, 40, false⟩ := TyOk.mkAgg (by kernel_rfl) rfl (by kernel_rfl) (show Tryz.prog.underlying 75 = some (.struct _) from Tryz.underlying75) (by kernel_rfl) (by kernel_rfl) (fun h => by cases h)
theorem ty_81 : TyOk Tryz.prog T 81 ⟨true, [.i .i64, .i .i64, .i .i64, .i .i64, .i .i64, .s, .s, .i .i64], [(0, 1), (1, 1), (2, 6)], 0, 80, false⟩ := TyOk.mkAgg (by kernel_rfl) rfl (by kernel_rfl) (show Tryz.prog.underlying 81 = some (.struct _) from Tryz.underlying81) (by kernel_rfl) (by kernel_rfl) (fun h => by cases h)
theorem eq_82 : EqFact Tryz.prog 82 [.i .i64, .i .i64, .i .i64, .i .i64, .i .i64, .s, .s, .i .i64] := by
  refine ⟨by kernel_rfl, fun w a b ha hb => ?_⟩
  match a, ha, b, hb with
  | [.i x0, .i x1, .i x2, .i x3, .i x4, .s x5, .s x6, .i x7], _, [.i y0, .i y1, .i y2, .i y3, .i y4, .s y5, .s y6, .i y7], _ =>
    have u3 := Tryz.underlying3
    have a3 := Tryz.isAgg3
    have z3 := Tryz.sizeOf3
    have u9 := Tryz.underlying9
    have a9 := Tryz.isAgg9
    have z9 := Tryz.sizeOf9
    have u72 := Tryz.underlying72
    have a72 := Tryz.isAgg72
    have z72 := Tryz.sizeOf72
    have hS : Tryz.prog.underlying 82 = some (.struct (Tryz.prog.fieldsOf 82)) := by kernel_rfl
    have hp : Tryz.prog.stoodInHeld 82 = false := by kernel_rfl
    have hS72 : Tryz.prog.underlying 72 = some (.struct (Tryz.prog.fieldsOf 72)) := by kernel_rfl
    have hp72 : Tryz.prog.stoodInHeld 72 = false := by kernel_rfl
    simp only [valsOf, valOf]
    rw [show (10000 : Nat) = 9999 + 1 from rfl, run_equalIn_agg w 9999 82 _ _ hS hp]
    simp only [Program.fieldsOf, Tryz.underlying82, eqDs, eqD]
    go_simp
    by_cases h0 : x0 = y0
    ·
      by_cases h1 : x1 = y1
      ·
        by_cases h2 : x2 = y2
        ·
          by_cases h3 : x3 = y3
          ·
            by_cases h4 : x4 = y4
            ·
              by_cases h5 : x5.toList = y5.toList
              ·
                by_cases h6 : x6.toList = y6.toList
                ·
                  by_cases h7 : x7 = y7
                  · simp [h0, h1, h2, h3, h4, h5, h6, h7]
                  · simp [h0, h1, h2, h3, h4, h5, h6, h7]
                · simp [h0, h1, h2, h3, h4, h5, h6]
              · simp [h0, h1, h2, h3, h4, h5]
            · simp [h0, h1, h2, h3, h4]
          · simp [h0, h1, h2, h3]
        · simp [h0, h1, h2]
      · simp [h0, h1]
    · simp [h0]
theorem ty_82 : TyOk Tryz.prog T 82 ⟨true, [.i .i64, .i .i64, .i .i64, .i .i64, .i .i64, .s, .s, .i .i64], [(0, 1), (1, 1), (2, 6)], 0, 80, true⟩ := TyOk.mkAgg (by kernel_rfl) rfl (by kernel_rfl) (show Tryz.prog.underlying 82 = some (.struct _) from Tryz.underlying82) (by kernel_rfl) (by kernel_rfl) (fun _ => eq_82)
theorem ty_91 : TyOk Tryz.prog T 91 ⟨false, [.l 9], [], 0, 24, false⟩ := TyOk.mkOne (c := .l 9) Tryz.underlying91 rfl (by kernel_rfl) rfl rfl (by kernel_rfl)
theorem ty_100 : TyOk Tryz.prog T 100 ⟨false, [.l 103], [], 0, 24, false⟩ := TyOk.mkOne (c := .l 103) Tryz.underlying100 rfl (by kernel_rfl) rfl rfl (by kernel_rfl)
theorem ty_101 : TyOk Tryz.prog T 101 ⟨false, [.l 135], [], 0, 24, false⟩ := TyOk.mkOne (c := .l 135) Tryz.underlying101 rfl (by kernel_rfl) rfl rfl (by kernel_rfl)
theorem ty_102 : TyOk Tryz.prog T 102 ⟨true, [.i .i64, .i .i64, .i .i64, .s, .l 103, .l 9, .l 135], [(0, 1), (1, 1), (2, 1), (3, 1), (4, 1), (5, 1), (6, 1)], 0, 112, false⟩ := TyOk.mkAgg (by kernel_rfl) rfl (by kernel_rfl) (show Tryz.prog.underlying 102 = some (.struct _) from Tryz.underlying102) (by kernel_rfl) (by kernel_rfl) (fun h => by cases h)
theorem ty_103 : TyOk Tryz.prog T 103 ⟨true, [.i .i64, .i .i64, .i .i64, .s, .l 103, .l 9, .l 135], [(0, 1), (1, 1), (2, 1), (3, 1), (4, 1), (5, 1), (6, 1)], 0, 112, false⟩ := TyOk.mkAgg (by kernel_rfl) rfl (by kernel_rfl) (show Tryz.prog.underlying 103 = some (.struct _) from Tryz.underlying103) (by kernel_rfl) (by kernel_rfl) (fun h => by cases h)
theorem ty_104 : TyOk Tryz.prog T 104 ⟨true, [.i .i64, .i .i64, .i .i64, .l 3, .i .i64, .i .i64, .i .i64, .s, .l 103, .l 9, .l 135, .b], [(0, 1), (1, 1), (2, 1), (3, 1), (4, 7), (11, 1)], 0, 168, false⟩ := TyOk.mkAgg (by kernel_rfl) rfl (by kernel_rfl) (show Tryz.prog.underlying 104 = some (.struct _) from Tryz.underlying104) (by kernel_rfl) (by kernel_rfl) (fun h => by cases h)
theorem ty_105 : TyOk Tryz.prog T 105 ⟨true, [.i .i64, .i .i64, .i .i64, .l 3, .i .i64, .i .i64, .i .i64, .s, .l 103, .l 9, .l 135, .b], [(0, 1), (1, 1), (2, 1), (3, 1), (4, 7), (11, 1)], 0, 168, false⟩ := TyOk.mkAgg (by kernel_rfl) rfl (by kernel_rfl) (show Tryz.prog.underlying 105 = some (.struct _) from Tryz.underlying105) (by kernel_rfl) (by kernel_rfl) (fun h => by cases h)
theorem ty_111 : TyOk Tryz.prog T 111 ⟨false, [.i .u64], [], 0, 8, false⟩ := TyOk.mkOne (c := .i .u64) Tryz.underlying111 rfl (by kernel_rfl) rfl rfl (by kernel_rfl)
theorem ty_117 : TyOk Tryz.prog T 117 ⟨true, [.s, .i .i64], [(0, 1), (1, 1)], 0, 24, false⟩ := TyOk.mkAgg (by kernel_rfl) rfl (by kernel_rfl) (show Tryz.prog.underlying 117 = some (.struct _) from Tryz.underlying117) (by kernel_rfl) (by kernel_rfl) (fun h => by cases h)
theorem eq_118 : EqFact Tryz.prog 118 [.s, .i .i64] := by
  refine ⟨by kernel_rfl, fun w a b ha hb => ?_⟩
  match a, ha, b, hb with
  | [.s x0, .i x1], _, [.s y0, .i y1], _ =>
    have u3 := Tryz.underlying3
    have a3 := Tryz.isAgg3
    have z3 := Tryz.sizeOf3
    have u9 := Tryz.underlying9
    have a9 := Tryz.isAgg9
    have z9 := Tryz.sizeOf9
    have hS : Tryz.prog.underlying 118 = some (.struct (Tryz.prog.fieldsOf 118)) := by kernel_rfl
    have hp : Tryz.prog.stoodInHeld 118 = false := by kernel_rfl
    simp only [valsOf, valOf]
    rw [show (10000 : Nat) = 9999 + 1 from rfl, run_equalIn_agg w 9999 118 _ _ hS hp]
    simp only [Program.fieldsOf, Tryz.underlying118, eqDs, eqD]
    go_simp
    by_cases h0 : x0.toList = y0.toList
    ·
      by_cases h1 : x1 = y1
      · simp [h0, h1]
      · simp [h0, h1]
    · simp [h0]
theorem ty_118 : TyOk Tryz.prog T 118 ⟨true, [.s, .i .i64], [(0, 1), (1, 1)], 0, 24, true⟩ := TyOk.mkAgg (by kernel_rfl) rfl (by kernel_rfl) (show Tryz.prog.underlying 118 = some (.struct _) from Tryz.underlying118) (by kernel_rfl) (by kernel_rfl) (fun _ => eq_118)
theorem ty_119 : TyOk Tryz.prog T 119 ⟨false, [.l 131], [], 0, 24, false⟩ := TyOk.mkOne (c := .l 131) Tryz.underlying119 rfl (by kernel_rfl) rfl rfl (by kernel_rfl)
theorem ty_120 : TyOk Tryz.prog T 120 ⟨true, [.i .i64, .i .i64, .l 131], [(0, 1), (1, 1), (2, 1)], 0, 40, false⟩ := TyOk.mkAgg (by kernel_rfl) rfl (by kernel_rfl) (show Tryz.prog.underlying 120 = some (.struct _) from Tryz.underlying120) (by kernel_rfl) (by kernel_rfl) (fun h => by cases h)
theorem ty_121 : TyOk Tryz.prog T 121 ⟨true, [.i .i64, .i .i64, .l 131], [(0, 1), (1, 1), (2, 1)], 0, 40, false⟩ := TyOk.mkAgg (by kernel_rfl) rfl (by kernel_rfl) (show Tryz.prog.underlying 121 = some (.struct _) from Tryz.underlying121) (by kernel_rfl) (by kernel_rfl) (fun h => by cases h)
theorem ty_124 : TyOk Tryz.prog T 124 ⟨false, [.l 126], [], 0, 24, false⟩ := TyOk.mkOne (c := .l 126) Tryz.underlying124 rfl (by kernel_rfl) rfl rfl (by kernel_rfl)
theorem ty_125 : TyOk Tryz.prog T 125 ⟨true, [.i .i64, .i .i64, .s, .l 126], [(0, 1), (1, 1), (2, 1), (3, 1)], 0, 56, false⟩ := TyOk.mkAgg (by kernel_rfl) rfl (by kernel_rfl) (show Tryz.prog.underlying 125 = some (.struct _) from Tryz.underlying125) (by kernel_rfl) (by kernel_rfl) (fun h => by cases h)
theorem ty_126 : TyOk Tryz.prog T 126 ⟨true, [.i .i64, .i .i64, .s, .l 126], [(0, 1), (1, 1), (2, 1), (3, 1)], 0, 56, false⟩ := TyOk.mkAgg (by kernel_rfl) rfl (by kernel_rfl) (show Tryz.prog.underlying 126 = some (.struct _) from Tryz.underlying126) (by kernel_rfl) (by kernel_rfl) (fun h => by cases h)
theorem ty_130 : TyOk Tryz.prog T 130 ⟨true, [.i .i64, .i .i64, .i .i64, .s, .i .i64, .i .i64, .i .i64, .s, .l 103, .l 9, .l 135], [(0, 1), (1, 1), (2, 1), (3, 1), (4, 7)], 0, 152, false⟩ := TyOk.mkAgg (by kernel_rfl) rfl (by kernel_rfl) (show Tryz.prog.underlying 130 = some (.struct _) from Tryz.underlying130) (by kernel_rfl) (by kernel_rfl) (fun h => by cases h)
theorem ty_131 : TyOk Tryz.prog T 131 ⟨true, [.i .i64, .i .i64, .i .i64, .s, .i .i64, .i .i64, .i .i64, .s, .l 103, .l 9, .l 135], [(0, 1), (1, 1), (2, 1), (3, 1), (4, 7)], 0, 152, false⟩ := TyOk.mkAgg (by kernel_rfl) rfl (by kernel_rfl) (show Tryz.prog.underlying 131 = some (.struct _) from Tryz.underlying131) (by kernel_rfl) (by kernel_rfl) (fun h => by cases h)
theorem ty_133 : TyOk Tryz.prog T 133 ⟨false, [.l 148], [], 0, 24, false⟩ := TyOk.mkOne (c := .l 148) Tryz.underlying133 rfl (by kernel_rfl) rfl rfl (by kernel_rfl)
theorem ty_134 : TyOk Tryz.prog T 134 ⟨true, [.l 3, .l 148], [(0, 1), (1, 1)], 0, 48, false⟩ := TyOk.mkAgg (by kernel_rfl) rfl (by kernel_rfl) (show Tryz.prog.underlying 134 = some (.struct _) from Tryz.underlying134) (by kernel_rfl) (by kernel_rfl) (fun h => by cases h)
theorem ty_135 : TyOk Tryz.prog T 135 ⟨true, [.l 3, .l 148], [(0, 1), (1, 1)], 0, 48, false⟩ := TyOk.mkAgg (by kernel_rfl) rfl (by kernel_rfl) (show Tryz.prog.underlying 135 = some (.struct _) from Tryz.underlying135) (by kernel_rfl) (by kernel_rfl) (fun h => by cases h)
theorem ty_147 : TyOk Tryz.prog T 147 ⟨true, [.i .i64, .i .i64], [(0, 1), (1, 1)], 0, 16, false⟩ := TyOk.mkAgg (by kernel_rfl) rfl (by kernel_rfl) (show Tryz.prog.underlying 147 = some (.struct _) from Tryz.underlying147) (by kernel_rfl) (by kernel_rfl) (fun h => by cases h)
theorem eq_148 : EqFact Tryz.prog 148 [.i .i64, .i .i64] := by
  refine ⟨by kernel_rfl, fun w a b ha hb => ?_⟩
  match a, ha, b, hb with
  | [.i x0, .i x1], _, [.i y0, .i y1], _ =>
    have u3 := Tryz.underlying3
    have a3 := Tryz.isAgg3
    have z3 := Tryz.sizeOf3
    have hS : Tryz.prog.underlying 148 = some (.struct (Tryz.prog.fieldsOf 148)) := by kernel_rfl
    have hp : Tryz.prog.stoodInHeld 148 = false := by kernel_rfl
    simp only [valsOf, valOf]
    rw [show (10000 : Nat) = 9999 + 1 from rfl, run_equalIn_agg w 9999 148 _ _ hS hp]
    simp only [Program.fieldsOf, Tryz.underlying148, eqDs, eqD]
    go_simp
    by_cases h0 : x0 = y0
    ·
      by_cases h1 : x1 = y1
      · simp [h0, h1]
      · simp [h0, h1]
    · simp [h0]
theorem ty_148 : TyOk Tryz.prog T 148 ⟨true, [.i .i64, .i .i64], [(0, 1), (1, 1)], 0, 16, true⟩ := TyOk.mkAgg (by kernel_rfl) rfl (by kernel_rfl) (show Tryz.prog.underlying 148 = some (.struct _) from Tryz.underlying148) (by kernel_rfl) (by kernel_rfl) (fun _ => eq_148)
theorem ty_161 : TyOk Tryz.prog T 161 ⟨false, [.i .u32], [], 0, 4, false⟩ := TyOk.mkOne (c := .i .u32) Tryz.underlying161 rfl (by kernel_rfl) rfl rfl (by kernel_rfl)
theorem ty_162 : TyOk Tryz.prog T 162 ⟨false, [.i .u8], [], 0, 1, false⟩ := TyOk.mkOne (c := .i .u8) Tryz.underlying162 rfl (by kernel_rfl) rfl rfl (by kernel_rfl)
theorem ty_163 : TyOk Tryz.prog T 163 ⟨false, [.i .u8], [], 0, 1, false⟩ := TyOk.mkOne (c := .i .u8) Tryz.underlying163 rfl (by kernel_rfl) rfl rfl (by kernel_rfl)
theorem ty_166 : TyOk Tryz.prog T 166 ⟨false, [.i .i32], [], 0, 4, false⟩ := TyOk.mkOne (c := .i .i32) Tryz.underlying166 rfl (by kernel_rfl) rfl rfl (by kernel_rfl)
theorem ty_167 : TyOk Tryz.prog T 167 ⟨false, [.i .i32], [], 0, 4, false⟩ := TyOk.mkOne (c := .i .i32) Tryz.underlying167 rfl (by kernel_rfl) rfl rfl (by kernel_rfl)
theorem tabT : TabOk Tryz.prog T := tabOk fun p hp => by
  simp only [tab, List.mem_cons, List.not_mem_nil, or_false] at hp
  rcases hp with rfl | rfl | rfl | rfl | rfl | rfl | rfl | rfl | rfl | rfl | rfl | rfl | rfl | rfl | rfl | rfl | rfl | rfl | rfl | rfl | rfl | rfl | rfl | rfl | rfl | rfl | rfl | rfl | rfl | rfl | rfl | rfl | rfl | rfl | rfl | rfl | rfl | rfl | rfl | rfl | rfl | rfl | rfl | rfl | rfl | rfl | rfl | rfl | rfl | rfl | rfl | rfl | rfl | rfl | rfl | rfl | rfl | rfl | rfl | rfl | rfl | rfl | rfl | rfl | rfl | rfl | rfl | rfl
  · exact ty_2
  · exact ty_3
  · exact ty_4
  · exact ty_5
  · exact ty_6
  · exact ty_7
  · exact ty_8
  · exact ty_9
  · exact ty_10
  · exact ty_11
  · exact ty_12
  · exact ty_13
  · exact ty_14
  · exact ty_21
  · exact ty_22
  · exact ty_24
  · exact ty_25
  · exact ty_26
  · exact ty_27
  · exact ty_28
  · exact ty_29
  · exact ty_30
  · exact ty_42
  · exact ty_54
  · exact ty_55
  · exact ty_59
  · exact ty_60
  · exact ty_61
  · exact ty_62
  · exact ty_63
  · exact ty_64
  · exact ty_65
  · exact ty_66
  · exact ty_67
  · exact ty_71
  · exact ty_72
  · exact ty_74
  · exact ty_75
  · exact ty_81
  · exact ty_82
  · exact ty_91
  · exact ty_100
  · exact ty_101
  · exact ty_102
  · exact ty_103
  · exact ty_104
  · exact ty_105
  · exact ty_111
  · exact ty_117
  · exact ty_118
  · exact ty_119
  · exact ty_120
  · exact ty_121
  · exact ty_124
  · exact ty_125
  · exact ty_126
  · exact ty_130
  · exact ty_131
  · exact ty_133
  · exact ty_134
  · exact ty_135
  · exact ty_147
  · exact ty_148
  · exact ty_161
  · exact ty_162
  · exact ty_163
  · exact ty_166
  · exact ty_167
theorem mixed : Tryz.prog.follows .mixedOrders = true := by kernel_rfl
end Go.Proofs.YtodddilaniojgaaGreat.Ab
