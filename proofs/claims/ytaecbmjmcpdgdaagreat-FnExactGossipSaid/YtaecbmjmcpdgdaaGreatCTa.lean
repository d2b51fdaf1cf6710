/- The table of the types whose values are data: printed by a program from the types as the model has them. -/
import Derived.Test.YtaecbmjmcpdgdaaGreatCK6
import Derived.Test.YtaecbmjmcpdgdaaGreatCFa
import Derived.Laws.StructEq
namespace Go.Proofs.YtaecbmjmcpdgdaaGreat.Ab
open Go.RowKit
set_option linter.unusedVariables false
set_option maxRecDepth 100000
def tab : List (TypeId × Ty) := [
  (2, ⟨false, [.i .i64], [], 0, 8, false⟩),
  (3, ⟨false, [.i .i64], [], 0, 8, false⟩),
  (4, ⟨false, [.b], [], 0, 1, false⟩),
  (5, ⟨false, [.i .u8], [], 0, 1, false⟩),
  (6, ⟨false, [.i .u8], [], 0, 1, false⟩),
  (7, ⟨true, [.i .i64, .i .i64, .b, .i .u8], [(0, 1), (1, 1), (2, 1), (3, 1)], 0, 24, false⟩),
  (8, ⟨true, [.i .i64, .i .i64, .b, .i .u8], [(0, 1), (1, 1), (2, 1), (3, 1)], 0, 24, false⟩),
  (9, ⟨false, [.s], [], 0, 16, false⟩),
  (10, ⟨false, [.s], [], 0, 16, false⟩),
  (11, ⟨false, [.s], [], 0, 16, false⟩),
  (12, ⟨false, [.i .u64], [], 0, 8, false⟩),
  (13, ⟨true, [.s, .i .u64], [(0, 1), (1, 1)], 0, 24, false⟩),
  (14, ⟨true, [.s, .i .u64], [(0, 1), (1, 1)], 0, 24, false⟩),
  (21, ⟨false, [.i .i32], [], 0, 4, false⟩),
  (22, ⟨false, [.l 33], [], 0, 24, false⟩),
  (24, ⟨false, [.l 36], [], 0, 24, false⟩),
  (31, ⟨false, [.l 72], [], 0, 24, false⟩),
  (32, ⟨true, [.i .i64, .l 72], [(0, 1), (1, 1)], 0, 32, false⟩),
  (33, ⟨true, [.i .i64, .l 72], [(0, 1), (1, 1)], 0, 32, false⟩),
  (34, ⟨false, [.l 54], [], 0, 24, false⟩),
  (35, ⟨true, [.i .i64, .l 54], [(0, 1), (1, 1)], 0, 32, false⟩),
  (36, ⟨true, [.i .i64, .l 54], [(0, 1), (1, 1)], 0, 32, false⟩),
  (47, ⟨false, [.l 3], [], 0, 24, false⟩),
  (48, ⟨true, [.i .i64, .i .i64, .i .i64, .s, .s, .i .i64], [(0, 1), (1, 1), (2, 1), (3, 1), (4, 1), (5, 1)], 0, 64, false⟩),
  (49, ⟨true, [.i .i64, .i .i64, .i .i64, .s, .s, .i .i64], [(0, 1), (1, 1), (2, 1), (3, 1), (4, 1), (5, 1)], 0, 64, true⟩),
  (50, ⟨true, [.i .i64, .i .i64, .i .i64, .i .i64, .i .i64, .s, .s, .i .i64], [(0, 1), (1, 1), (2, 6)], 0, 80, false⟩),
  (51, ⟨true, [.i .i64, .i .i64, .i .i64, .i .i64, .i .i64, .s, .s, .i .i64], [(0, 1), (1, 1), (2, 6)], 0, 80, true⟩),
  (52, ⟨false, [.l 94], [], 0, 24, false⟩),
  (53, ⟨true, [.i .i64, .i .i64, .i .i64, .l 3, .i .i64, .i .i64, .i .i64, .i .i64, .i .i64, .s, .s, .i .i64, .s, .s, .i .i64, .i .i64, .l 94], [(0, 1), (1, 1), (2, 1), (3, 1), (4, 8), (12, 1), (13, 1), (14, 1), (15, 1), (16, 1)], 0, 200, false⟩),
  (54, ⟨true, [.i .i64, .i .i64, .i .i64, .l 3, .i .i64, .i .i64, .i .i64, .i .i64, .i .i64, .s, .s, .i .i64, .s, .s, .i .i64, .i .i64, .l 94], [(0, 1), (1, 1), (2, 1), (3, 1), (4, 8), (12, 1), (13, 1), (14, 1), (15, 1), (16, 1)], 0, 200, false⟩),
  (67, ⟨true, [.i .i64, .i .i64, .i .i64, .s, .s, .i .i64], [(0, 1), (1, 1), (2, 1), (3, 1), (4, 1), (5, 1)], 0, 64, true⟩),
  (68, ⟨true, [.i .i64, .i .i64, .i .i64, .i .i64, .i .i64, .s, .s, .i .i64], [(0, 1), (1, 1), (2, 6)], 0, 80, false⟩),
  (69, ⟨true, [.i .i64, .i .i64, .i .i64, .i .i64, .i .i64, .s, .s, .i .i64], [(0, 1), (1, 1), (2, 6)], 0, 80, true⟩),
  (70, ⟨false, [.l 124], [], 0, 24, false⟩),
  (71, ⟨true, [.i .i64, .i .i64, .i .i64, .l 3, .i .i64, .i .i64, .i .i64, .i .i64, .i .i64, .s, .s, .i .i64, .s, .s, .i .i64, .i .i64, .l 124], [(0, 1), (1, 1), (2, 1), (3, 1), (4, 8), (12, 1), (13, 1), (14, 1), (15, 1), (16, 1)], 0, 200, false⟩),
  (72, ⟨true, [.i .i64, .i .i64, .i .i64, .l 3, .i .i64, .i .i64, .i .i64, .i .i64, .i .i64, .s, .s, .i .i64, .s, .s, .i .i64, .i .i64, .l 124], [(0, 1), (1, 1), (2, 1), (3, 1), (4, 8), (12, 1), (13, 1), (14, 1), (15, 1), (16, 1)], 0, 200, false⟩),
  (77, ⟨false, [.i .u64], [], 0, 8, false⟩),
  (87, ⟨false, [.l 5], [], 0, 24, false⟩),
  (88, ⟨false, [.l 92], [], 0, 24, false⟩),
  (89, ⟨false, [.l 9], [], 0, 24, false⟩),
  (90, ⟨false, [.l 115], [], 0, 24, false⟩),
  (91, ⟨true, [.i .i64, .i .i64, .i .i64, .s, .l 92, .l 9, .l 115], [(0, 1), (1, 1), (2, 1), (3, 1), (4, 1), (5, 1), (6, 1)], 0, 112, false⟩),
  (92, ⟨true, [.i .i64, .i .i64, .i .i64, .s, .l 92, .l 9, .l 115], [(0, 1), (1, 1), (2, 1), (3, 1), (4, 1), (5, 1), (6, 1)], 0, 112, false⟩),
  (93, ⟨true, [.i .i64, .i .i64, .i .i64, .s, .i .i64, .i .i64, .i .i64, .s, .l 92, .l 9, .l 115], [(0, 1), (1, 1), (2, 1), (3, 1), (4, 7)], 0, 152, false⟩),
  (94, ⟨true, [.i .i64, .i .i64, .i .i64, .s, .i .i64, .i .i64, .i .i64, .s, .l 92, .l 9, .l 115], [(0, 1), (1, 1), (2, 1), (3, 1), (4, 7)], 0, 152, false⟩),
  (113, ⟨false, [.l 133], [], 0, 24, false⟩),
  (114, ⟨true, [.l 3, .l 133], [(0, 1), (1, 1)], 0, 48, false⟩),
  (115, ⟨true, [.l 3, .l 133], [(0, 1), (1, 1)], 0, 48, false⟩),
  (119, ⟨false, [.l 122], [], 0, 24, false⟩),
  (120, ⟨false, [.l 148], [], 0, 24, false⟩),
  (121, ⟨true, [.i .i64, .i .i64, .i .i64, .s, .l 122, .l 9, .l 148], [(0, 1), (1, 1), (2, 1), (3, 1), (4, 1), (5, 1), (6, 1)], 0, 112, false⟩),
  (122, ⟨true, [.i .i64, .i .i64, .i .i64, .s, .l 122, .l 9, .l 148], [(0, 1), (1, 1), (2, 1), (3, 1), (4, 1), (5, 1), (6, 1)], 0, 112, false⟩),
  (123, ⟨true, [.i .i64, .i .i64, .i .i64, .s, .i .i64, .i .i64, .i .i64, .s, .l 122, .l 9, .l 148], [(0, 1), (1, 1), (2, 1), (3, 1), (4, 7)], 0, 152, false⟩),
  (124, ⟨true, [.i .i64, .i .i64, .i .i64, .s, .i .i64, .i .i64, .i .i64, .s, .l 122, .l 9, .l 148], [(0, 1), (1, 1), (2, 1), (3, 1), (4, 7)], 0, 152, false⟩),
  (129, ⟨false, [.i .u64], [], 0, 8, false⟩),
  (132, ⟨true, [.i .i64, .i .i64], [(0, 1), (1, 1)], 0, 16, false⟩),
  (133, ⟨true, [.i .i64, .i .i64], [(0, 1), (1, 1)], 0, 16, true⟩),
  (146, ⟨false, [.l 155], [], 0, 24, false⟩),
  (147, ⟨true, [.l 3, .l 155], [(0, 1), (1, 1)], 0, 48, false⟩),
  (148, ⟨true, [.l 3, .l 155], [(0, 1), (1, 1)], 0, 48, false⟩),
  (155, ⟨true, [.i .i64, .i .i64], [(0, 1), (1, 1)], 0, 16, true⟩),
  (163, ⟨false, [.i .u32], [], 0, 4, false⟩),
  (164, ⟨false, [.i .u8], [], 0, 1, false⟩),
  (165, ⟨false, [.i .u8], [], 0, 1, false⟩),
  (168, ⟨false, [.i .i32], [], 0, 4, false⟩),
  (169, ⟨false, [.i .i32], [], 0, 4, false⟩),
  (172, ⟨true, [.s, .i .u8], [(0, 1), (1, 1)], 0, 24, false⟩),
  (173, ⟨true, [.s, .i .u8], [(0, 1), (1, 1)], 0, 24, false⟩)]
abbrev T : Tab := tabOf tab
theorem ty_2 : TyOk Tryz.prog T 2 ⟨false, [.i .i64], [], 0, 8, false⟩ := TyOk.mkOne (c := .i .i64) Tryz.underlying2 rfl (by kernel_rfl) rfl rfl (by kernel_rfl)
theorem ty_3 : TyOk Tryz.prog T 3 ⟨false, [.i .i64], [], 0, 8, false⟩ := TyOk.mkOne (c := .i .i64) Tryz.underlying3 rfl (by kernel_rfl) rfl rfl (by kernel_rfl)
theorem ty_4 : TyOk Tryz.prog T 4 ⟨false, [.b], [], 0, 1, false⟩ := TyOk.mkOne (c := .b) Tryz.underlying4 rfl (by kernel_rfl) rfl rfl (by kernel_rfl)
theorem ty_5 : TyOk Tryz.prog T 5 ⟨false, [.i .u8], [], 0, 1, false⟩ := TyOk.mkOne (c := .i .u8) Tryz.underlying5 rfl (by kernel_rfl) rfl rfl (by kernel_rfl)
theorem ty_6 : TyOk Tryz.prog T 6 ⟨false, [.i .u8], [], 0, 1, false⟩ := TyOk.mkOne (c := .i .u8) Tryz.underlying6 rfl (by kernel_rfl) rfl rfl (by kernel_rfl)
theorem ty_7 : TyOk Tryz.prog T 7 ⟨true, [.i .i64, .i .i64, .b, .i .u8], [(0, 1), (1, 1), (2, 1), (3, 1)], 0, 24, false⟩ := TyOk.mkAgg (by kernel_rfl) rfl (by kernel_rfl) (show Tryz.prog.underlying 7 = some (.struct _) from Tryz.underlying7) (by kernel_rfl) (by kernel_rfl) (fun h => by cases h)
theorem ty_8 : TyOk Tryz.prog T 8 ⟨true, [.i .i64, .i .i64, .b, .i .u8], [(0, 1), (1, 1), (2, 1), (3, 1)], 0, 24, false⟩ := TyOk.mkAgg (by kernel_rfl) rfl (by kernel_rfl) (show Tryz.prog.underlying 8 = some (.struct _) from Tryz.underlying8) (by kernel_rfl) (by kernel_rfl) (fun h => by cases h)
theorem ty_9 : TyOk Tryz.prog T 9 ⟨false, [.s], [], 0, 16, false⟩ := TyOk.mkOne (c := .s) Tryz.underlying9 rfl (by kernel_rfl) rfl rfl (by kernel_rfl)
theorem ty_10 : TyOk Tryz.prog T 10 ⟨false, [.s], [], 0, 16, false⟩ := TyOk.mkOne (c := .s) Tryz.underlying10 rfl (by kernel_rfl) rfl rfl (by kernel_rfl)
theorem ty_11 : TyOk Tryz.prog T 11 ⟨false, [.s], [], 0, 16, false⟩ := TyOk.mkOne (c := .s) Tryz.underlying11 rfl (by kernel_rfl) rfl rfl (by kernel_rfl)
theorem ty_12 : TyOk Tryz.prog T 12 ⟨false, [.i .u64], [], 0, 8, false⟩ := TyOk.mkOne (c := .i .u64) Tryz.underlying12 rfl (by kernel_rfl) rfl rfl (by kernel_rfl)
theorem ty_13 : TyOk Tryz.prog T 13 ⟨true, [.s, .i .u64], [(0, 1), (1, 1)], 0, 24, false⟩ := TyOk.mkAgg (by kernel_rfl) rfl (by kernel_rfl) (show Tryz.prog.underlying 13 = some (.struct _) from Tryz.underlying13) (by kernel_rfl) (by kernel_rfl) (fun h => by cases h)
theorem ty_14 : TyOk Tryz.prog T 14 ⟨true, [.s, .i .u64], [(0, 1), (1, 1)], 0, 24, false⟩ := TyOk.mkAgg (by kernel_rfl) rfl (by kernel_rfl) (show Tryz.prog.underlying 14 = some (.struct _) from Tryz.underlying14) (by kernel_rfl) (by kernel_rfl) (fun h => by cases h)
theorem ty_21 : TyOk Tryz.prog T 21 ⟨false, [.i .i32], [], 0, 4, false⟩ := TyOk.mkOne (c := .i .i32) Tryz.underlying21 rfl (by kernel_rfl) rfl rfl (by kernel_rfl)
theorem ty_22 : TyOk Tryz.prog T 22 ⟨false, [.l 33], [], 0, 24, false⟩ := TyOk.mkOne (c := .l 33) Tryz.underlying22 rfl (by kernel_rfl) rfl rfl (by kernel_rfl)
theorem ty_24 : TyOk Tryz.prog T 24 ⟨false, [.l 36], [], 0, 24, false⟩ := TyOk.mkOne (c := .l 36) Tryz.underlying24 rfl (by kernel_rfl) rfl rfl (by kernel_rfl)
theorem ty_31 : TyOk Tryz.prog T 31 ⟨false, [.l 72], [], 0, 24, false⟩ := TyOk.mkOne (c := .l 72) Tryz.underlying31 rfl (by kernel_rfl) rfl rfl (by kernel_rfl)
theorem ty_32 : TyOk Tryz.prog T 32 ⟨true, [.i .i64, .l 72], [(0, 1), (1, 1)], 0, 32, false⟩ := TyOk.mkAgg (by kernel_rfl) rfl (by kernel_rfl) (show Tryz.prog.underlying 32 = some (.struct _) from Tryz.underlying32) (by kernel_rfl) (by kernel_rfl) (fun h => by cases h)
theorem ty_33 : TyOk Tryz.prog T 33 ⟨true, [.i .i64, .l 72], [(0, 1), (1, 1)], 0, 32, false⟩ := TyOk.mkAgg (by kernel_rfl) rfl (by kernel_rfl) (show Tryz.prog.underlying 33 = some (.struct _) from Tryz.underlying33) (by kernel_rfl) (by kernel_rfl) (fun h => by cases h)
theorem ty_34 : TyOk Tryz.prog T 34 ⟨false, [.l 54], [], 0, 24, false⟩ := TyOk.mkOne (c := .l 54) Tryz.underlying34 rfl (by kernel_rfl) rfl rfl (by kernel_rfl)
theorem ty_35 : TyOk Tryz.prog T 35 ⟨true, [.i .i64, .l 54], [(0, 1), (1, 1)], 0, 32, false⟩ := TyOk.mkAgg (by kernel_rfl) rfl (by kernel_rfl) (show Tryz.prog.underlying 35 = some (.struct _) from Tryz.underlying35) (by kernel_rfl) (by kernel_rfl) (fun h => by cases h)
theorem ty_36 : TyOk Tryz.prog T 36 ⟨true, [.i .i64, .l 54], [(0, 1), (1, 1)], 0, 32, false⟩ := TyOk.mkAgg (by kernel_rfl) rfl (by kernel_rfl) (show Tryz.prog.underlying 36 = some (.struct _) from Tryz.underlying36) (by kernel_rfl) (by kernel_rfl) (fun h => by cases h)
theorem ty_47 : TyOk Tryz.prog T 47 ⟨false, [.l 3], [], 0, 24, false⟩ := TyOk.mkOne (c := .l 3) Tryz.underlying47 rfl (by kernel_rfl) rfl rfl (by kernel_rfl)
theorem ty_48 : TyOk Tryz.prog T 48 ⟨true, [.i .i64, .i .i64, .i .i64, .s, .s, .i .i64], [(0, 1), (1, 1), (2, 1), (3, 1), (4, 1), (5, 1)], 0, 64, false⟩ := TyOk.mkAgg (by kernel_rfl) rfl (by kernel_rfl) (show Tryz.prog.underlying 48 = some (.struct _) from Tryz.underlying48) (by kernel_rfl) (by kernel_rfl) (fun h => by cases h)
theorem eq_49 : EqFact Tryz.prog 49 [.i .i64, .i .i64, .i .i64, .s, .s, .i .i64] := by
  refine ⟨by kernel_rfl, fun w a b ha hb => ?_⟩
  match a, ha, b, hb with
  | [.i x0, .i x1, .i x2, .s x3, .s x4, .i x5], _, [.i y0, .i y1, .i y2, .s y3, .s y4, .i y5], _ =>
    have u3 := Tryz.underlying3
    have a3 := Tryz.isAgg3
    have z3 := Tryz.sizeOf3
    have u9 := Tryz.underlying9
    have a9 := Tryz.isAgg9
    have z9 := Tryz.sizeOf9
    have hS : Tryz.prog.underlying 49 = some (.struct (Tryz.prog.fieldsOf 49)) := by kernel_rfl
    have hp : Tryz.prog.stoodInHeld 49 = false := by kernel_rfl
    simp only [valsOf, valOf]
    rw [show (10000 : Nat) = 9999 + 1 from rfl, run_equalIn_agg w 9999 49 _ _ hS hp]
    simp only [Program.fieldsOf, Tryz.underlying49, eqDs, eqD]
    go_simp
    by_cases h0 : x0 = y0
    ·
      by_cases h1 : x1 = y1
      ·
        by_cases h2 : x2 = y2
        ·
          by_cases h3 : x3.toList = y3.toList
          ·
            by_cases h4 : x4.toList = y4.toList
            ·
              by_cases h5 : x5 = y5
              · simp [h0, h1, h2, h3, h4, h5]
              · simp [h0, h1, h2, h3, h4, h5]
            · simp [h0, h1, h2, h3, h4]
          · simp [h0, h1, h2, h3]
        · simp [h0, h1, h2]
      · simp [h0, h1]
    · simp [h0]
theorem ty_49 : TyOk Tryz.prog T 49 ⟨true, [.i .i64, .i .i64, .i .i64, .s, .s, .i .i64], [(0, 1), (1, 1), (2, 1), (3, 1), (4, 1), (5, 1)], 0, 64, true⟩ := TyOk.mkAgg (by kernel_rfl) rfl (by kernel_rfl) (show Tryz.prog.underlying 49 = some (.struct _) from Tryz.underlying49) (by kernel_rfl) (by kernel_rfl) (fun _ => eq_49)
theorem ty_50 : TyOk Tryz.prog T 50 ⟨true, [.i .i64, .i .i64, .i .i64, .i .i64, .i .i64, .s, .s, .i .i64], [(0, 1), (1, 1), (2, 6)], 0, 80, false⟩ := TyOk.mkAgg (by kernel_rfl) rfl (by kernel_rfl) (show Tryz.prog.underlying 50 = some (.struct _) from Tryz.underlying50) (by kernel_rfl) (by kernel_rfl) (fun h => by cases h)
theorem eq_51 : EqFact Tryz.prog 51 [.i .i64, .i .i64, .i .i64, .i .i64, .i .i64, .s, .s, .i .i64] := by
  refine ⟨by kernel_rfl, fun w a b ha hb => ?_⟩
  match a, ha, b, hb with
  | [.i x0, .i x1, .i x2, .i x3, .i x4, .s x5, .s x6, .i x7], _, [.i y0, .i y1, .i y2, .i y3, .i y4, .s y5, .s y6, .i y7], _ =>
    have u3 := Tryz.underlying3
    have a3 := Tryz.isAgg3
    have z3 := Tryz.sizeOf3
    have u9 := Tryz.underlying9
    have a9 := Tryz.isAgg9
    have z9 := Tryz.sizeOf9
    have u49 := Tryz.underlying49
    have a49 := Tryz.isAgg49
    have z49 := Tryz.sizeOf49
    have hS : Tryz.prog.underlying 51 = some (.struct (Tryz.prog.fieldsOf 51)) := by kernel_rfl
    have hp : Tryz.prog.stoodInHeld 51 = false := by kernel_rfl
    have hS49 : Tryz.prog.underlying 49 = some (.struct (Tryz.prog.fieldsOf 49)) := by kernel_rfl
    have hp49 : Tryz.prog.stoodInHeld 49 = false := by kernel_rfl
    simp only [valsOf, valOf]
    rw [show (10000 : Nat) = 9999 + 1 from rfl, run_equalIn_agg w 9999 51 _ _ hS hp]
    simp only [Program.fieldsOf, Tryz.underlying51, eqDs, eqD]
    go_simp
    by_cases h0 : x0 = y0
    ·
      by_cases h1 : x1 = y1
      ·
        by_cases h2 : x2 = y2
        ·
          by_cases h3 : x3 = y3
          ·
            by_cases h4 : x4 = y4
            ·
              by_cases h5 : x5.toList = y5.toList
              ·
                by_cases h6 : x6.toList = y6.toList
                ·
                  by_cases h7 : x7 = y7
                  · simp [h0, h1, h2, h3, h4, h5, h6, h7]
                  · simp [h0, h1, h2, h3, h4, h5, h6, h7]
                · simp [h0, h1, h2, h3, h4, h5, h6]
              · simp [h0, h1, h2, h3, h4, h5]
            · simp [h0, h1, h2, h3, h4]
          · simp [h0, h1, h2, h3]
        · simp [h0, h1, h2]
      · simp [h0, h1]
    · simp [h0]
theorem ty_51 : TyOk Tryz.prog T 51 ⟨true, [.i .i64, .i .i64, .i .i64, .i .i64, .i .i64, .s, .s, .i .i64], [(0, 1), (1, 1), (2, 6)], 0, 80, true⟩ := TyOk.mkAgg (by kernel_rfl) rfl (by kernel_rfl) (show Tryz.prog.underlying 51 = some (.struct _) from Tryz.underlying51) (by kernel_rfl) (by kernel_rfl) (fun _ => eq_51)
theorem ty_52 : TyOk Tryz.prog T 52 ⟨false, [.l 94], [], 0, 24, false⟩ := TyOk.mkOne (c := .l 94) Tryz.underlying52 rfl (by kernel_rfl) rfl rfl (by kernel_rfl)
theorem ty_53 : TyOk Tryz.prog T 53 ⟨true, [.i .i64, .i .i64, .i .i64, .l 3, .i .i64, .i .i64, .i .i64, .i .i64, .i .i64, .s, .s, .i .i64, .s, .s, .i .i64, .i .i64, .l 94], [(0, 1), (1, 1), (2, 1), (3, 1), (4, 8), (12, 1), (13, 1), (14, 1), (15, 1), (16, 1)], 0, 200, false⟩ := TyOk.mkAgg (by kernel_rfl) rfl (by kernel_rfl) (show Tryz.prog.underlying 53 = some (.struct _) from Tryz.underlying53) (by kernel_rfl) (by kernel_rfl) (fun h => by cases h)
theorem ty_54 : TyOk Tryz.prog T 54 ⟨true, [.i .i64, .i .i64, .i .i64, .l 3, .i .i64, .i .i64, .i .i64, .i .i64, .i .i64, .s, .s, .i .i64, .s, .s, .i .i64, .i .i64, .l 94], [(0, 1), (1, 1), (2, 1), (3, 1), (4, 8), (12, 1), (13, 1), (14, 1), (15, 1), (16, 1)], 0, 200, false⟩ := TyOk.mkAgg (by kernel_rfl) rfl (by kernel_rfl) (show Tryz.prog.underlying 54 = some (.struct _) from Tryz.underlying54) (by kernel_rfl) (by kernel_rfl) (fun h => by cases h)
theorem eq_67 : EqFact Tryz.prog 67 [.i .i64, .i .i64, .i .i64, .s, .s, .i .i64] := by
  refine ⟨by kernel_rfl, fun w a b ha hb => ?_⟩
  match a, ha, b, hb with
  | [.i x0, .i x1, .i x2, .s x3, .s x4, .i x5], _, [.i y0, .i y1, .i y2, .s y3, .s y4, .i y5], _ =>
    have u3 := Tryz.underlying3
    have a3 := Tryz.isAgg3
    have z3 := Tryz.sizeOf3
    have u9 := Tryz.underlying9
    have a9 := Tryz.isAgg9
    have z9 := Tryz.sizeOf9
    have hS : Tryz.prog.underlying 67 = some (.struct (Tryz.prog.fieldsOf 67)) := by kernel_rfl
    have hp : Tryz.prog.stoodInHeld 67 = false := by kernel_rfl
    simp only [valsOf, valOf]
    rw [show (10000 : Nat) = 9999 + 1 from rfl, run_equalIn_agg w 9999 67 _ _ hS hp]
    simp only [Program.fieldsOf, Tryz.underlying67, eqDs, eqD]
    go_simp
    by_cases h0 : x0 = y0
    ·
      by_cases h1 : x1 = y1
      ·
        by_cases h2 : x2 = y2
        ·
          by_cases h3 : x3.toList = y3.toList
          ·
            by_cases h4 : x4.toList = y4.toList
            ·
              by_cases h5 : x5 = y5
              · simp [h0, h1, h2, h3, h4, h5]
              · simp [h0, h1, h2, h3, h4, h5]
            · simp [h0, h1, h2, h3, h4]
          · simp [h0, h1, h2, h3]
        · simp [h0, h1, h2]
      · simp [h0, h1]
    · simp [h0]
theorem ty_67 : TyOk Tryz.prog T 67 ⟨true, [.i .i64, .i .i64, .i .i64, .s, .s, .i .i64], [(0, 1), (1, 1), (2, 1), (3, 1), (4, 1), (5, 1)], 0, 64, true⟩ := TyOk.mkAgg (by kernel_rfl) rfl (by kernel_rfl) (show Tryz.prog.underlying 67 = some (.struct _) from Tryz.underlying67) (by kernel_rfl) (by kernel_rfl) (fun _ => eq_67)
theorem ty_68 : TyOk Tryz.prog T 68 ⟨true, [.i .i64, .i .i64, .i .i64, .i .i64, .i .i64, .s, .s, .i .i64], [(0, 1), (1, 1), (2, 6)], 0, 80, false⟩ := TyOk.mkAgg (by kernel_rfl) rfl (by kernel_rfl) (show Tryz.prog.underlying 68 = some (.struct _) from Tryz.underlying68) (by kernel_rfl) (by kernel_rfl) (fun h => by cases h)
theorem eq_69 : EqFact Tryz.prog 69 [.i .i64, .i .i64, .i .i64, .i .i64, .i .i64, .s, .s, .i .i64] := by
  refine ⟨by kernel_rfl, fun w a b ha hb => ?_⟩
  match a, ha, b, hb with
  | [.i x0, .i x1, .i x2, .i x3, .i x4, .s x5, .s x6, .i x7], _, [.i y0, .i y1, .i y2, .i y3, .i y4, .s y5, .s y6, .i y7], _ =>
    have u3 := Tryz.underlying3
    have a3 := Tryz.isAgg3
    have z3 := Tryz.sizeOf3
    have u9 := Tryz.underlying9
    have a9 := Tryz.isAgg9
    have z9 := Tryz.sizeOf9
    have u67 := Tryz.underlying67
    have a67 := Tryz.isAgg67
    have z67 := Tryz.sizeOf67
    have hS : Tryz.prog.underlying 69 = some (.struct (Tryz.prog.fieldsOf 69)) := by kernel_rfl
    have hp : Tryz.prog.stoodInHeld 69 = false := by kernel_rfl
    have hS67 : Tryz.prog.underlying 67 = some (.struct (Tryz.prog.fieldsOf 67)) := by kernel_rfl
    have hp67 : Tryz.prog.stoodInHeld 67 = false := by kernel_rfl
    simp only [valsOf, valOf]
    rw [show (10000 : Nat) = 9999 + 1 from rfl, run_equalIn_agg w 9999 69 _ _ hS hp]
    simp only [Program.fieldsOf, Tryz.underlying69, eqDs, eqD]
    go_simp
    by_cases h0 : x0 = y0
    ·
      by_cases h1 : x1 = y1
      ·
        by_cases h2 : x2 = y2
        ·
          by_cases h3 : x3 = y3
          ·
            by_cases h4 : x4 = y4
            ·
              by_cases h5 : x5.toList = y5.toList
              ·
                by_cases h6 : x6.toList = y6.toList
                ·
                  by_cases h7 : x7 = y7
                  · simp [h0, h1, h2, h3, h4, h5, h6, h7]
                  · simp [h0, h1, h2, h3, h4, h5, h6, h7]
                · simp [h0, h1, h2, h3, h4, h5, h6]
              · simp [h0, h1, h2, h3, h4, h5]
            · simp [h0, h1, h2, h3, h4]
          · simp [h0, h1, h2, h3]
        · simp [h0, h1, h2]
      · simp [h0, h1]
    · simp [h0]
theorem ty_69 : TyOk Tryz.prog T 69 ⟨true, [.i .i64, .i .i64, .i .i64, .i .i64, .i .i64, .s, .s, .i .i64], [(0, 1), (1, 1), (2, 6)], 0, 80, true⟩ := TyOk.mkAgg (by kernel_rfl) rfl (by kernel_rfl) (show Tryz.prog.underlying 69 = some (.struct _) from Tryz.underlying69) (by kernel_rfl) (by kernel_rfl) (fun _ => eq_69)
theorem ty_70 : TyOk Tryz.prog T 70 ⟨false, [.l 124], [], 0, 24, false⟩ := TyOk.mkOne (c := .l 124) Tryz.underlying70 rfl (by kernel_rfl) rfl rfl (by kernel_rfl)
theorem ty_71 : TyOk Tryz.prog T 71 ⟨true, [.i .i64, .i .i64, .i .i64, .l 3, .i .i64, .i .i64, .i .i64, .i .i64, .i .i64, .s, .s, .i .i64, .s, .s, .i .i64, .i .i64, .l 124], [(0, 1), (1, 1), (2, 1), (3, 1), (4, 8), (12, 1), (13, 1), (14, 1), (15, 1), (16, 1)], 0, 200, false⟩ := TyOk.mkAgg (by kernel_rfl) rfl (by kernel_rfl) (show Tryz.prog.underlying 71 = some (.struct _) from Tryz.underlying71) (by kernel_rfl) (by kernel_rfl) (fun h => by cases h)
theorem ty_72 : TyOk Tryz.prog T 72 ⟨true, [.i .i64, .i .i64, .i .i64, .l 3, .i .i64, .i .i64, .i .i64, .i .i64, .i .i64, .s, .s, .i .i64, .s, .s, .i .i64, .i .i64, .l 124], [(0, 1), (1, 1), (2, 1), (3, 1), (4, 8), (12, 1), (13, 1), (14, 1), (15, 1), (16, 1)], 0, 200, false⟩ := TyOk.mkAgg (by kernel_rfl) rfl (by kernel_rfl) (show Tryz.prog.underlying 72 = some (.struct _) from Tryz.underlying72) (by kernel_rfl) (by kernel_rfl) (fun h => by cases h)
theorem ty_77 : TyOk Tryz.prog T 77 ⟨false, [.i .u64], [], 0, 8, false⟩ := TyOk.mkOne (c := .i .u64) Tryz.underlying77 rfl (by kernel_rfl) rfl rfl (by kernel_rfl)
theorem ty_87 : TyOk Tryz.prog T 87 ⟨false, [.l 5], [], 0, 24, false⟩ := TyOk.mkOne (c := .l 5) Tryz.underlying87 rfl (by kernel_rfl) rfl rfl (by kernel_rfl)
theorem ty_88 : TyOk Tryz.prog T 88 ⟨false, [.l 92], [], 0, 24, false⟩ := TyOk.mkOne (c := .l 92) Tryz.underlying88 rfl (by kernel_rfl) rfl rfl (by kernel_rfl)
theorem ty_89 : TyOk Tryz.prog T 89 ⟨false, [.l 9], [], 0, 24, false⟩ := TyOk.mkOne (c := .l 9) Tryz.underlying89 rfl (by kernel_rfl) rfl rfl (by kernel_rfl)
theorem ty_90 : TyOk Tryz.prog T 90 ⟨false, [.l 115], [], 0, 24, false⟩ := TyOk.mkOne (c := .l 115) Tryz.underlying90 rfl (by kernel_rfl) rfl rfl (by kernel_rfl)
theorem ty_91 : TyOk Tryz.prog T 91 ⟨true, [.i .i64, .i .i64, .i .i64, .s, .l 92, .l 9, .l 115], [(0, 1), (1, 1), (2, 1), (3, 1), (4, 1), (5, 1), (6, 1)], 0, 112, false⟩ := TyOk.mkAgg (by kernel_rfl) rfl (by kernel_rfl) (show Tryz.prog.underlying 91 = some (.struct _) from Tryz.underlying91) (by kernel_rfl) (by kernel_rfl) (fun h => by cases h)
theorem ty_92 : TyOk Tryz.prog T 92 ⟨true, [.i .i64, .i .i64, .i .i64, .s, .l 92, .l 9, .l 115], [(0, 1), (1, 1), (2, 1), (3, 1), (4, 1), (5, 1), (6, 1)], 0, 112, false⟩ := TyOk.mkAgg (by kernel_rfl) rfl (by kernel_rfl) (show Tryz.prog.underlying 92 = some (.struct _) from Tryz.underlying92) (by kernel_rfl) (by kernel_rfl) (fun h => by cases h)
theorem ty_93 : TyOk Tryz.prog T 93 ⟨true, [.i .i64, .i .i64, .i .i64, .s, .i .i64, .i .i64, .i .i64, .s, .l 92, .l 9, .l 115], [(0, 1), (1, 1), (2, 1), (3, 1), (4, 7)], 0, 152, false⟩ := TyOk.mkAgg (by kernel_rfl) rfl (by kernel_rfl) (show Tryz.prog.underlying 93 = some (.struct _) from Tryz.underlying93) (by kernel_rfl) (by kernel_rfl) (fun h => by cases h)
theorem ty_94 : TyOk Tryz.prog T 94 ⟨true, [.i .i64, .i .i64, .i .i64, .s, .i .i64, .i .i64, .i .i64, .s, .l 92, .l 9, .l 115], [(0, 1), (1, 1), (2, 1), (3, 1), (4, 7)], 0, 152, false⟩ := TyOk.mkAgg (by kernel_rfl) rfl (by kernel_rfl) (show Tryz.prog.underlying 94 = some (.struct _) from Tryz.underlying94) (by kernel_rfl) (by kernel_rfl) (fun h => by cases h)
theorem ty_113 : TyOk Tryz.prog T 113 ⟨false, [.l 133], [], 0, 24, false⟩ := TyOk.mkOne (c := .l 133) Tryz.underlying113 rfl (by kernel_rfl) rfl rfl (by kernel_rfl)
theorem ty_114 : TyOk Tryz.prog T 114 ⟨true, [.l 3, .l 133], [(0, 1), (1, 1)], 0, 48, false⟩ := TyOk.mkAgg (by kernel_rfl) rfl (by kernel_rfl) (show Tryz.prog.underlying 114 = some (.struct _) from Tryz.underlying114) (by kernel_rfl) (by kernel_rfl) (fun h => by cases h)
theorem ty_115 : TyOk Tryz.prog T 115 ⟨true, [.l 3, .l 133], [(0, 1), (1, 1)], 0, 48, false⟩ := TyOk.mkAgg (by kernel_rfl) rfl (by kernel_rfl) (show Tryz.prog.underlying 115 = some (.struct _) from Tryz.underlying115) (by kernel_rfl) (by kernel_rfl) (fun h => by cases h)
theorem ty_119 : TyOk Tryz.prog T 119 ⟨false, [.l 122], [], 0, 24, false⟩ := TyOk.mkOne (c := .l 122) Tryz.underlying119 rfl (by kernel_rfl) rfl rfl (by kernel_rfl)
theorem ty_120 : TyOk Tryz.prog T 120 ⟨false, [.l 148], [], 0, 24, false⟩ := TyOk.mkOne (c := .l 148) Tryz.underlying120 rfl (by kernel_rfl) rfl rfl (by kernel_rfl)
theorem ty_121 : TyOk Tryz.prog T 121 ⟨true, [.i .i64, .i .i64, .i .i64, .s, .l 122, .l 9, .l 148], [(0, 1), (1, 1), (2, 1), (3, 1), (4, 1), (5, 1), (6, 1)], 0, 112, false⟩ := TyOk.mkAgg (by kernel_rfl) rfl (by kernel_rfl) (show Tryz.prog.underlying 121 = some (.struct _) from Tryz.underlying121) (by kernel_rfl) (by kernel_rfl) (fun h => by cases h)
theorem ty_122 : TyOk Tryz.prog T 122 ⟨true, [.i .i64, .i .i64, .i .i64, .s, .l 122, .l 9, .l 148], [(0, 1), (1, 1), (2, 1), (3, 1), (4, 1), (5, 1), (6, 1)], 0, 112, false⟩ := TyOk.mkAgg (by kernel_rfl) rfl (by kernel_rfl) (show Tryz.prog.underlying 122 = some (.struct _) from Tryz.underlying122) (by kernel_rfl) (by kernel_rfl) (fun h => by cases h)
theorem ty_123 : TyOk Tryz.prog T 123 ⟨true, [.i .i64, .i .i64, .i .i64, .s, .i .i64, .i .i64, .i .i64, .s, .l 122, .l 9, .l 148], [(0, 1), (1, 1), (2, 1), (3, 1), (4, 7)], 0, 152, false⟩ := TyOk.mkAgg (by kernel_rfl) rfl (by kernel_rfl) (show Tryz.prog.underlying 123 = some (.struct _) from Tryz.underlying123) (by kernel_rfl) (by kernel_rfl) (fun h => by cases h)
theorem ty_124 : TyOk Tryz.prog T 124 ⟨true, [.i .i64, .i .i64, .i .i64, .s, .i .i64, .i .i64, .i .i64, .s, .l 122, .l 9, .l 148], [(0, 1), (1, 1), (2, 1), (3, 1), (4, 7)], 0, 152, false⟩ := TyOk.mkAgg (by kernel_rfl) rfl (by kernel_rfl) (show Tryz.prog.underlying 124 = some (.struct _) from Tryz.underlying124) (by kernel_rfl) (by kernel_rfl) (fun h => by cases h)
theorem ty_129 : TyOk Tryz.prog T 129 ⟨false, [.i .u64], [], 0, 8, false⟩ := TyOk.mkOne (c := .i .u64) Tryz.underlying129 rfl (by kernel_rfl) rfl rfl (by kernel_rfl)
theorem ty_132 : TyOk Tryz.prog T 132 ⟨true, [.i .i64, .i .i64], [(0, 1), (1, 1)], 0, 16, false⟩ := TyOk.mkAgg (by kernel_rfl) rfl (by kernel_rfl) (show Tryz.prog.underlying 132 = some (.struct _) from Tryz.underlying132) (by kernel_rfl) (by kernel_rfl) (fun h => by cases h)
theorem eq_133 : EqFact Tryz.prog 133 [.i .i64, .i .i64] := by
  refine ⟨by kernel_rfl, fun w a b ha hb => ?_⟩
  match a, ha, b, hb with
  | [.i x0, .i x1], _, [.i y0, .i y1], _ =>
    have u3 := Tryz.underlying3
    have a3 := Tryz.isAgg3
    have z3 := Tryz.sizeOf3
    have hS : Tryz.prog.underlying 133 = some (.struct (Tryz.prog.fieldsOf 133)) := by kernel_rfl
    have hp : Tryz.prog.stoodInHeld 133 = false := by kernel_rfl
    simp only [valsOf, valOf]
    rw [show (10000 : Nat) = 9999 + 1 from rfl, run_equalIn_agg w 9999 133 _ _ hS hp]
    simp only [Program.fieldsOf, Tryz.underlying133, eqDs, eqD]
    go_simp
    by_cases h0 : x0 = y0
    ·
      by_cases h1 : x1 = y1
      · simp [h0, h1]
      · simp [h0, h1]
    · simp [h0]
theorem ty_133 : TyOk Tryz.prog T 133 ⟨true, [.i .i64, .i .i64], [(0, 1), (1, 1)], 0, 16, true⟩ := TyOk.mkAgg (by kernel_rfl) rfl (by kernel_rfl) (show Tryz.prog.underlying 133 = some (.struct _) from Tryz.underlying133) (by kernel_rfl) (by kernel_rfl) (fun _ => eq_133)
theorem ty_146 : TyOk Tryz.prog T 146 ⟨false, [.l 155], [], 0, 24, false⟩ := TyOk.mkOne (c := .l 155) Tryz.underlying146 rfl (by kernel_rfl) rfl rfl (by kernel_rfl)
theorem ty_147 : TyOk Tryz.prog T 147 ⟨true, [.l 3, .l 155], [(0, 1), (1, 1)], 0, 48, false⟩ := TyOk.mkAgg (by kernel_rfl) rfl (by kernel_rfl) (show Tryz.prog.underlying 147 = some (.struct _) from Tryz.underlying147) (by kernel_rfl) (by kernel_rfl) (fun h => by cases h)
theorem ty_148 : TyOk Tryz.prog T 148 ⟨true, [.l 3, .l 155], [(0, 1), (1, 1)], 0, 48, false⟩ := TyOk.mkAgg (by kernel_rfl) rfl (by kernel_rfl) (show Tryz.prog.underlying 148 = some (.struct _) from Tryz.underlying148) (by kernel_rfl) (by kernel_rfl) (fun h => by cases h)
theorem eq_155 : EqFact Tryz.prog 155 [.i .i64, .i .i64] := by
  refine ⟨by kernel_rfl, fun w a b ha hb => ?_⟩
  match a, ha, b, hb with
  | [.i x0, .i x1], _, [.i y0, .i y1], _ =>
    have u3 := Tryz.underlying3
    have a3 := Tryz.isAgg3
    have z3 := Tryz.sizeOf3
    have hS : Tryz.prog.underlying 155 = some (.struct (Tryz.prog.fieldsOf 155)) := by kernel_rfl
    have hp : Tryz.prog.stoodInHeld 155 = false := by kernel_rfl
    simp only [valsOf, valOf]
    rw [show (10000 : Nat) = 9999 + 1 from rfl, run_equalIn_agg w 9999 155 _ _ hS hp]
    simp only [Program.fieldsOf, Tryz.underlying155, eqDs, eqD]
    go_simp
    by_cases h0 : x0 = y0
    ·
      by_cases h1 : x1 = y1
      · simp [h0, h1]
      · simp [h0, h1]
    · simp [h0]
theorem ty_155 : TyOk Tryz.prog T 155 ⟨true, [.i .i64, .i .i64], [(0, 1), (1, 1)], 0, 16, true⟩ := TyOk.mkAgg (by kernel_rfl) rfl (by kernel_rfl) (show Tryz.prog.underlying 155 = some (.struct _) from Tryz.underlying155) (by kernel_rfl) (by kernel_rfl) (fun _ => eq_155)
theorem ty_163 : TyOk Tryz.prog T 163 ⟨false, [.i .u32], [], 0, 4, false⟩ := TyOk.mkOne (c := .i .u32) Tryz.underlying163 rfl (by kernel_rfl) rfl rfl (by kernel_rfl)
theorem ty_164 : TyOk Tryz.prog T 164 ⟨false, [.i .u8], [], 0, 1, false⟩ := TyOk.mkOne (c := .i .u8) Tryz.underlying164 rfl (by kernel_rfl) rfl rfl (by kernel_rfl)
theorem ty_165 : TyOk Tryz.prog T 165 ⟨false, [.i .u8], [], 0, 1, false⟩ := TyOk.mkOne (c := .i .u8) Tryz.underlying165 rfl (by kernel_rfl) rfl rfl (by kernel_rfl)
theorem ty_168 : TyOk Tryz.prog T 168 ⟨false, [.i .i32], [], 0, 4, false⟩ := TyOk.mkOne (c := .i .i32) Tryz.underlying168 rfl (by kernel_rfl) rfl rfl (by kernel_rfl)
theorem ty_169 : TyOk Tryz.prog T 169 ⟨false, [.i .i32], [], 0, 4, false⟩ := TyOk.mkOne (c := .i .i32) Tryz.underlying169 rfl (by kernel_rfl) rfl rfl (by kernel_rfl)
theorem ty_172 : TyOk Tryz.prog T 172 ⟨true, [.s, .i .u8], [(0, 1), (1, 1)], 0, 24, false⟩ := TyOk.mkAgg (by kernel_rfl) rfl (by kernel_rfl) (show Tryz.prog.underlying 172 = some (.struct _) from Tryz.underlying172) (by kernel_rfl) (by kernel_rfl) (fun h => by cases h)
theorem ty_173 : TyOk Tryz.prog T 173 ⟨true, [.s, .i .u8], [(0, 1), (1, 1)], 0, 24, false⟩ := TyOk.mkAgg (by kernel_rfl) rfl (by kernel_rfl) (show Tryz.prog.underlying 173 = some (.struct _) from Tryz.underlying173) (by kernel_rfl) (by kernel_rfl) (fun h => by cases h)
theorem tabT : TabOk Tryz.prog T := tabOk fun p hp => by
  simp only [tab, List.mem_cons, List.not_mem_nil, or_false] at hp
  rcases hp with rfl | rfl | rfl | rfl | rfl | rfl | rfl | rfl | rfl | rfl | rfl | rfl | rfl | rfl | rfl | rfl | rfl | rfl | rfl | rfl | rfl | rfl | rfl | rfl | rfl | rfl | rfl | rfl | rfl | rfl | rfl | rfl | rfl | rfl | rfl | rfl | rfl | rfl | rfl | rfl | rfl | rfl | rfl | rfl | rfl | rfl | rfl | rfl | rfl | rfl | rfl | rfl | rfl | rfl | rfl | rfl | rfl | rfl | rfl | rfl | rfl | rfl | rfl | rfl | rfl | rfl | rfl | rfl
  · exact ty_2
  · exact ty_3
  · exact ty_4
  · exact ty_5
  · exact ty_6
  · exact ty_7
  · exact ty_8
  · exact ty_9
  · exact ty_10
  · exact ty_11
  · exact ty_12
  · exact ty_13
  · exact ty_14
  · exact ty_21
  · exact ty_22
  · exact ty_24
  · exact ty_31
  · exact ty_32
  · exact ty_33
  · exact ty_34
  · exact ty_35
  · exact ty_36
  · exact ty_47
  · exact ty_48
  · exact ty_49
  · exact ty_50
  · exact ty_51
  · exact ty_52
  · exact ty_53
  · exact ty_54
  · exact ty_67
  · exact ty_68
  · exact ty_69
  · exact ty_70
  · exact ty_71
  · exact ty_72
  · exact ty_77
  · exact ty_87
  · exact ty_88
  · exact ty_89
  · exact ty_90
  · exact ty_91
  · exact ty_92
  · exact ty_93
  · exact ty_94
  · exact ty_113
  · exact ty_114
  · exact ty_115
  · exact ty_119
  · exact ty_120
  · exact ty_121
  · exact ty_122
  · exact ty_123
  · exact ty_124
  · exact ty_129
  · exact ty_132
  · exact ty_133
  · exact ty_146
  · exact ty_147
  · exact ty_148
  · exact ty_155
  · exact ty_163
  · exact ty_164
  · exact ty_165
  · exact ty_168
  · exact ty_169
  · exact ty_172
  · exact ty_173
theorem mixed : Tryz.prog.follows .mixedOrders = true := by kernel_rfl
end Go.Proofs.YtaecbmjmcpdgdaaGreat.Ab
