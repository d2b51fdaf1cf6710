/- The table of the types whose values are data: printed by a program from the types as the model has them. -/
import Derived.Test.YtdmipmbeolglaaaGreatDoorM6
import Derived.Test.YtdmipmbeolglaaaGreatDoorFrame
import Derived.Laws.StructEq
namespace Go.Proofs.YtdmipmbeolglaaaGreatDoor.Ab
open Go.RowKit
set_option linter.unusedVariables false
set_option maxRecDepth 100000
def tab : List (TypeId × Ty) := [
  (2, ⟨false, [.i .i64], [], 0, 8, false⟩),
  (3, ⟨false, [.i .i64], [], 0, 8, false⟩),
  (4, ⟨false, [.b], [], 0, 1, false⟩),
  (5, ⟨false, [.i .u8], [], 0, 1, false⟩),
  (6, ⟨false, [.i .u8], [], 0, 1, false⟩),
  (7, ⟨true, [.i .i64, .i .i64, .b, .i .u8], [(0, 1), (1, 1), (2, 1), (3, 1)], 0, 24, false⟩),
  (8, ⟨true, [.i .i64, .i .i64, .b, .i .u8], [(0, 1), (1, 1), (2, 1), (3, 1)], 0, 24, false⟩),
  (9, ⟨false, [.s], [], 0, 16, false⟩),
  (10, ⟨false, [.s], [], 0, 16, false⟩),
  (11, ⟨false, [.s], [], 0, 16, false⟩),
  (12, ⟨false, [.i .u64], [], 0, 8, false⟩),
  (13, ⟨true, [.s, .i .u64], [(0, 1), (1, 1)], 0, 24, false⟩),
  (14, ⟨true, [.s, .i .u64], [(0, 1), (1, 1)], 0, 24, false⟩),
  (21, ⟨false, [.i .i32], [], 0, 4, false⟩),
  (22, ⟨false, [.l 3], [], 0, 24, false⟩),
  (23, ⟨true, [.i .i64, .i .i64, .i .i64, .s, .s, .i .i64], [(0, 1), (1, 1), (2, 1), (3, 1), (4, 1), (5, 1)], 0, 64, false⟩),
  (24, ⟨true, [.i .i64, .i .i64, .i .i64, .s, .s, .i .i64], [(0, 1), (1, 1), (2, 1), (3, 1), (4, 1), (5, 1)], 0, 64, true⟩),
  (25, ⟨true, [.i .i64, .i .i64, .i .i64, .i .i64, .i .i64, .s, .s, .i .i64], [(0, 1), (1, 1), (2, 6)], 0, 80, false⟩),
  (26, ⟨true, [.i .i64, .i .i64, .i .i64, .i .i64, .i .i64, .s, .s, .i .i64], [(0, 1), (1, 1), (2, 6)], 0, 80, true⟩),
  (27, ⟨false, [.l 102], [], 0, 24, false⟩),
  (28, ⟨true, [.i .i64, .i .i64, .i .i64, .l 3, .i .i64, .i .i64, .i .i64, .i .i64, .i .i64, .s, .s, .i .i64, .s, .s, .i .i64, .i .i64, .l 102], [(0, 1), (1, 1), (2, 1), (3, 1), (4, 8), (12, 1), (13, 1), (14, 1), (15, 1), (16, 1)], 0, 200, false⟩),
  (29, ⟨true, [.i .i64, .i .i64, .i .i64, .l 3, .i .i64, .i .i64, .i .i64, .i .i64, .i .i64, .s, .s, .i .i64, .s, .s, .i .i64, .i .i64, .l 102], [(0, 1), (1, 1), (2, 1), (3, 1), (4, 8), (12, 1), (13, 1), (14, 1), (15, 1), (16, 1)], 0, 200, false⟩),
  (32, ⟨true, [.i .i64, .i .i64, .i .i64, .s, .s, .i .i64], [(0, 1), (1, 1), (2, 1), (3, 1), (4, 1), (5, 1)], 0, 64, true⟩),
  (33, ⟨true, [.i .i64, .i .i64, .i .i64, .i .i64, .i .i64, .s, .s, .i .i64], [(0, 1), (1, 1), (2, 6)], 0, 80, false⟩),
  (34, ⟨true, [.i .i64, .i .i64, .i .i64, .i .i64, .i .i64, .s, .s, .i .i64], [(0, 1), (1, 1), (2, 6)], 0, 80, true⟩),
  (35, ⟨false, [.l 74], [], 0, 24, false⟩),
  (36, ⟨true, [.i .i64, .i .i64, .i .i64, .l 3, .i .i64, .i .i64, .i .i64, .i .i64, .i .i64, .s, .s, .i .i64, .s, .s, .i .i64, .i .i64, .l 74], [(0, 1), (1, 1), (2, 1), (3, 1), (4, 8), (12, 1), (13, 1), (14, 1), (15, 1), (16, 1)], 0, 200, false⟩),
  (37, ⟨true, [.i .i64, .i .i64, .i .i64, .l 3, .i .i64, .i .i64, .i .i64, .i .i64, .i .i64, .s, .s, .i .i64, .s, .s, .i .i64, .i .i64, .l 74], [(0, 1), (1, 1), (2, 1), (3, 1), (4, 8), (12, 1), (13, 1), (14, 1), (15, 1), (16, 1)], 0, 200, false⟩),
  (41, ⟨true, [.s, .i .i64], [(0, 1), (1, 1)], 0, 24, false⟩),
  (42, ⟨true, [.s, .i .i64], [(0, 1), (1, 1)], 0, 24, true⟩),
  (44, ⟨true, [.s, .i .i64], [(0, 1), (1, 1)], 0, 24, true⟩),
  (50, ⟨false, [.l 29], [], 0, 24, false⟩),
  (51, ⟨true, [.i .i64, .l 29], [(0, 1), (1, 1)], 0, 32, false⟩),
  (52, ⟨true, [.i .i64, .l 29], [(0, 1), (1, 1)], 0, 32, false⟩),
  (55, ⟨false, [.l 37], [], 0, 24, false⟩),
  (56, ⟨true, [.i .i64, .l 37], [(0, 1), (1, 1)], 0, 32, false⟩),
  (57, ⟨true, [.i .i64, .l 37], [(0, 1), (1, 1)], 0, 32, false⟩),
  (65, ⟨false, [.l 9], [], 0, 24, false⟩),
  (69, ⟨false, [.l 72], [], 0, 24, false⟩),
  (70, ⟨false, [.l 112], [], 0, 24, false⟩),
  (71, ⟨true, [.i .i64, .i .i64, .i .i64, .s, .l 72, .l 9, .l 112], [(0, 1), (1, 1), (2, 1), (3, 1), (4, 1), (5, 1), (6, 1)], 0, 112, false⟩),
  (72, ⟨true, [.i .i64, .i .i64, .i .i64, .s, .l 72, .l 9, .l 112], [(0, 1), (1, 1), (2, 1), (3, 1), (4, 1), (5, 1), (6, 1)], 0, 112, false⟩),
  (73, ⟨true, [.i .i64, .i .i64, .i .i64, .s, .i .i64, .i .i64, .i .i64, .s, .l 72, .l 9, .l 112], [(0, 1), (1, 1), (2, 1), (3, 1), (4, 7)], 0, 152, false⟩),
  (74, ⟨true, [.i .i64, .i .i64, .i .i64, .s, .i .i64, .i .i64, .i .i64, .s, .l 72, .l 9, .l 112], [(0, 1), (1, 1), (2, 1), (3, 1), (4, 7)], 0, 152, false⟩),
  (81, ⟨true, [.l 9, .b], [(0, 1), (1, 1)], 0, 32, false⟩),
  (82, ⟨true, [.l 9, .b], [(0, 1), (1, 1)], 0, 32, false⟩),
  (97, ⟨false, [.l 100], [], 0, 24, false⟩),
  (98, ⟨false, [.l 155], [], 0, 24, false⟩),
  (99, ⟨true, [.i .i64, .i .i64, .i .i64, .s, .l 100, .l 9, .l 155], [(0, 1), (1, 1), (2, 1), (3, 1), (4, 1), (5, 1), (6, 1)], 0, 112, false⟩),
  (100, ⟨true, [.i .i64, .i .i64, .i .i64, .s, .l 100, .l 9, .l 155], [(0, 1), (1, 1), (2, 1), (3, 1), (4, 1), (5, 1), (6, 1)], 0, 112, false⟩),
  (101, ⟨true, [.i .i64, .i .i64, .i .i64, .s, .i .i64, .i .i64, .i .i64, .s, .l 100, .l 9, .l 155], [(0, 1), (1, 1), (2, 1), (3, 1), (4, 7)], 0, 152, false⟩),
  (102, ⟨true, [.i .i64, .i .i64, .i .i64, .s, .i .i64, .i .i64, .i .i64, .s, .l 100, .l 9, .l 155], [(0, 1), (1, 1), (2, 1), (3, 1), (4, 7)], 0, 152, false⟩),
  (104, ⟨false, [.l 5], [], 0, 24, false⟩),
  (110, ⟨false, [.l 125], [], 0, 24, false⟩),
  (111, ⟨true, [.l 3, .l 125], [(0, 1), (1, 1)], 0, 48, false⟩),
  (112, ⟨true, [.l 3, .l 125], [(0, 1), (1, 1)], 0, 48, false⟩),
  (116, ⟨false, [.i .u64], [], 0, 8, false⟩),
  (117, ⟨false, [.i .u32], [], 0, 4, false⟩),
  (124, ⟨true, [.i .i64, .i .i64], [(0, 1), (1, 1)], 0, 16, false⟩),
  (125, ⟨true, [.i .i64, .i .i64], [(0, 1), (1, 1)], 0, 16, true⟩),
  (153, ⟨false, [.l 178], [], 0, 24, false⟩),
  (154, ⟨true, [.l 3, .l 178], [(0, 1), (1, 1)], 0, 48, false⟩),
  (155, ⟨true, [.l 3, .l 178], [(0, 1), (1, 1)], 0, 48, false⟩),
  (164, ⟨false, [.i .u64], [], 0, 8, false⟩),
  (178, ⟨true, [.i .i64, .i .i64], [(0, 1), (1, 1)], 0, 16, true⟩),
  (188, ⟨false, [.i .u8], [], 0, 1, false⟩),
  (189, ⟨false, [.i .u8], [], 0, 1, false⟩),
  (191, ⟨false, [.i .i32], [], 0, 4, false⟩),
  (192, ⟨false, [.i .i32], [], 0, 4, false⟩)]
abbrev T : Tab := tabOf tab [(0, [(.l 9, .l [[.s ⟨#[109, 105, 115, 115, 105, 110, 103]⟩], [.s ⟨#[100, 117, 112, 108, 105, 99, 97, 116, 101]⟩], [.s ⟨#[99, 121, 99, 108, 101]⟩], [.s ⟨#[116, 121, 112, 101]⟩], [.s ⟨#[114, 97, 110, 103, 101]⟩], [.s ⟨#[108, 105, 109, 105, 116]⟩], [.s ⟨#[99, 111, 108, 117, 109, 110]⟩], [.s ⟨#[115, 121, 110, 116, 97, 120]⟩]])]), (2, [(.i .u64, .i 1), (.i .u64, .i 10), (.i .u64, .i 100), (.i .u64, .i 1000), (.i .u64, .i 10000), (.i .u64, .i 100000), (.i .u64, .i 1000000), (.i .u64, .i 10000000), (.i .u64, .i 100000000), (.i .u64, .i 1000000000), (.i .u64, .i 10000000000), (.i .u64, .i 100000000000), (.i .u64, .i 1000000000000), (.i .u64, .i 10000000000000), (.i .u64, .i 100000000000000), (.i .u64, .i 1000000000000000), (.i .u64, .i 10000000000000000), (.i .u64, .i 100000000000000000), (.i .u64, .i 1000000000000000000), (.i .u64, .i 10000000000000000000)])]
theorem ty_2 : TyOk Tryz.prog T 2 ⟨false, [.i .i64], [], 0, 8, false⟩ := TyOk.mkOne (c := .i .i64) Tryz.underlying2 rfl (by kernel_rfl) rfl rfl (by kernel_rfl)
theorem ty_3 : TyOk Tryz.prog T 3 ⟨false, [.i .i64], [], 0, 8, false⟩ := TyOk.mkOne (c := .i .i64) Tryz.underlying3 rfl (by kernel_rfl) rfl rfl (by kernel_rfl)
theorem ty_4 : TyOk Tryz.prog T 4 ⟨false, [.b], [], 0, 1, false⟩ := TyOk.mkOne (c := .b) Tryz.underlying4 rfl (by kernel_rfl) rfl rfl (by kernel_rfl)
theorem ty_5 : TyOk Tryz.prog T 5 ⟨false, [.i .u8], [], 0, 1, false⟩ := TyOk.mkOne (c := .i .u8) Tryz.underlying5 rfl (by kernel_rfl) rfl rfl (by kernel_rfl)
theorem ty_6 : TyOk Tryz.prog T 6 ⟨false, [.i .u8], [], 0, 1, false⟩ := TyOk.mkOne (c := .i .u8) Tryz.underlying6 rfl (by kernel_rfl) rfl rfl (by kernel_rfl)
theorem ty_7 : TyOk Tryz.prog T 7 ⟨true, [.i .i64, .i .i64, .b, .i .u8], [(0, 1), (1, 1), (2, 1), (3, 1)], 0, 24, false⟩ := TyOk.mkAgg (by kernel_rfl) rfl (by kernel_rfl) (show Tryz.prog.underlying 7 = some (.struct _) from Tryz.underlying7) (by kernel_rfl) (by kernel_rfl) (fun h => by cases h)
theorem ty_8 : TyOk Tryz.prog T 8 ⟨true, [.i .i64, .i .i64, .b, .i .u8], [(0, 1), (1, 1), (2, 1), (3, 1)], 0, 24, false⟩ := TyOk.mkAgg (by kernel_rfl) rfl (by kernel_rfl) (show Tryz.prog.underlying 8 = some (.struct _) from Tryz.underlying8) (by kernel_rfl) (by kernel_rfl) (fun h => by cases h)
theorem ty_9 : TyOk Tryz.prog T 9 ⟨false, [.s], [], 0, 16, false⟩ := TyOk.mkOne (c := .s) Tryz.underlying9 rfl (by kernel_rfl) rfl rfl (by kernel_rfl)
theorem ty_10 : TyOk Tryz.prog T 10 ⟨false, [.s], [], 0, 16, false⟩ := TyOk.mkOne (c := .s) Tryz.underlying10 rfl (by kernel_rfl) rfl rfl (by kernel_rfl)
theorem ty_11 : TyOk Tryz.prog T 11 ⟨false, [.s], [], 0, 16, false⟩ := TyOk.mkOne (c := .s) Tryz.underlying11 rfl (by kernel_rfl) rfl rfl (by kernel_rfl)
theorem ty_12 : TyOk Tryz.prog T 12 ⟨false, [.i .u64], [], 0, 8, false⟩ := TyOk.mkOne (c := .i .u64) Tryz.underlying12 rfl (by kernel_rfl) rfl rfl (by kernel_rfl)
theorem ty_13 : TyOk Tryz.prog T 13 ⟨true, [.s, .i .u64], [(0, 1), (1, 1)], 0, 24, false⟩ := TyOk.mkAgg (by kernel_rfl) rfl (by kernel_rfl) (show Tryz.prog.underlying 13 = some (.struct _) from Tryz.underlying13) (by kernel_rfl) (by kernel_rfl) (fun h => by cases h)
theorem ty_14 : TyOk Tryz.prog T 14 ⟨true, [.s, .i .u64], [(0, 1), (1, 1)], 0, 24, false⟩ := TyOk.mkAgg (by kernel_rfl) rfl (by kernel_rfl) (show Tryz.prog.underlying 14 = some (.struct _) from Tryz.underlying14) (by kernel_rfl) (by kernel_rfl) (fun h => by cases h)
theorem ty_21 : TyOk Tryz.prog T 21 ⟨false, [.i .i32], [], 0, 4, false⟩ := TyOk.mkOne (c := .i .i32) Tryz.underlying21 rfl (by kernel_rfl) rfl rfl (by kernel_rfl)
theorem ty_22 : TyOk Tryz.prog T 22 ⟨false, [.l 3], [], 0, 24, false⟩ := TyOk.mkOne (c := .l 3) Tryz.underlying22 rfl (by kernel_rfl) rfl rfl (by kernel_rfl)
theorem ty_23 : TyOk Tryz.prog T 23 ⟨true, [.i .i64, .i .i64, .i .i64, .s, .s, .i .i64], [(0, 1), (1, 1), (2, 1), (3, 1), (4, 1), (5, 1)], 0, 64, false⟩ := TyOk.mkAgg (by kernel_rfl) rfl (by kernel_rfl) (show Tryz.prog.underlying 23 = some (.struct _) from Tryz.underlying23) (by kernel_rfl) (by kernel_rfl) (fun h => by cases h)
theorem eq_24 : EqFact Tryz.prog 24 [.i .i64, .i .i64, .i .i64, .s, .s, .i .i64] := by
  refine ⟨by kernel_rfl, fun w a b ha hb => ?_⟩
  match a, ha, b, hb with
  | [.i x0, .i x1, .i x2, .s x3, .s x4, .i x5], _, [.i y0, .i y1, .i y2, .s y3, .s y4, .i y5], _ =>
    have u3 := Tryz.underlying3
    have a3 := Tryz.isAgg3
    have z3 := Tryz.sizeOf3
    have u9 := Tryz.underlying9
    have a9 := Tryz.isAgg9
    have z9 := Tryz.sizeOf9
    have hS : Tryz.prog.underlying 24 = some (.struct (Tryz.prog.fieldsOf 24)) := by kernel_rfl
    have hp : Tryz.prog.stoodInHeld 24 = false := by kernel_rfl
    simp only [valsOf, valOf]
    rw [show (10000 : Nat) = 9999 + 1 from rfl, run_equalIn_agg w 9999 24 _ _ hS hp]
    simp only [Program.fieldsOf, Tryz.underlying24, eqDs, eqD]
    go_simp
    by_cases h0 : x0 = y0
    ·
      by_cases h1 : x1 = y1
      ·
        by_cases h2 : x2 = y2
        ·
          by_cases h3 : x3.toList = y3.toList
          ·
            by_cases h4 : x4.toList = y4.toList
            ·
              by_cases h5 : x5 = y5
              · simp [h0, h1, h2, h3, h4, h5]
              · simp [h0, h1, h2, h3, h4, h5]
            · simp [h0, h1, h2, h3, h4]
          · simp [h0, h1, h2, h3]
        · simp [h0, h1, h2]
      · simp [h0, h1]
    · simp [h0]
theorem ty_24 : TyOk Tryz.prog T 24 ⟨true, [.i .i64, .i .i64, .i .i64, .s, .s, .i .i64], [(0, 1), (1, 1), (2, 1), (3, 1), (4, 1), (5, 1)], 0, 64, true⟩ := TyOk.mkAgg (by kernel_rfl) rfl (by kernel_rfl) (show Tryz.prog.underlying 24 = some (.struct _) from Tryz.underlying24) (by kernel_rfl) (by kernel_rfl) (fun _ => eq_24)
theorem ty_25 : TyOk Tryz.prog T 25 ⟨true, [.i .i64, .i .i64, .i .i64, .i .i64, .i .i64, .s, .s, .i .i64], [(0, 1), (1, 1), (2, 6)], 0, 80, false⟩ := TyOk.mkAgg (by kernel_rfl) rfl (by kernel_rfl) (show Tryz.prog.underlying 25 = some (.struct _) from Tryz.underlying25) (by kernel_rfl) (by kernel_rfl) (fun h => by cases h)
theorem eq_26 : EqFact Tryz.prog 26 [.i .i64, .i .i64, .i .i64, .i .i64, .i .i64, .s, .s, .i .i64] := by
  refine ⟨by kernel_rfl, fun w a b ha hb => ?_⟩
  match a, ha, b, hb with
  | [.i x0, .i x1, .i x2, .i x3, .i x4, .s x5, .s x6, .i x7], _, [.i y0, .i y1, .i y2, .i y3, .i y4, .s y5, .s y6, .i y7], _ =>
    have u3 := Tryz.underlying3
    have a3 := Tryz.isAgg3
    have z3 := Tryz.sizeOf3
    have u9 := Tryz.underlying9
    have a9 := Tryz.isAgg9
    have z9 := Tryz.sizeOf9
    have u24 := Tryz.underlying24
    have a24 := Tryz.isAgg24
    have z24 := Tryz.sizeOf24
    have hS : Tryz.prog.underlying 26 = some (.struct (Tryz.prog.fieldsOf 26)) := by kernel_rfl
    have hp : Tryz.prog.stoodInHeld 26 = false := by kernel_rfl
    have hS24 : Tryz.prog.underlying 24 = some (.struct (Tryz.prog.fieldsOf 24)) := by kernel_rfl
    have hp24 : Tryz.prog.stoodInHeld 24 = false := by kernel_rfl
    simp only [valsOf, valOf]
    rw [show (10000 : Nat) = 9999 + 1 from rfl, run_equalIn_agg w 9999 26 _ _ hS hp]
    simp only [Program.fieldsOf, Tryz.underlying26, eqDs, eqD]
    go_simp
    by_cases h0 : x0 = y0
    ·
      by_cases h1 : x1 = y1
      ·
        by_cases h2 : x2 = y2
        ·
          by_cases h3 : x3 = y3
          ·
            by_cases h4 : x4 = y4
            ·
              by_cases h5 : x5.toList = y5.toList
              ·
                by_cases h6 : x6.toList = y6.toList
                ·
                  by_cases h7 : x7 = y7
                  · simp [h0, h1, h2, h3, h4, h5, h6, h7]
                  · simp [h0, h1, h2, h3, h4, h5, h6, h7]
                · simp [h0, h1, h2, h3, h4, h5, h6]
              · simp [h0, h1, h2, h3, h4, h5]
            · simp [h0, h1, h2, h3, h4]
          · simp [h0, h1, h2, h3]
        · simp [h0, h1, h2]
      · simp [h0, h1]
    · simp [h0]
theorem ty_26 : TyOk Tryz.prog T 26 ⟨true, [.i .i64, .i .i64, .i .i64, .i .i64, .i .i64, .s, .s, .i .i64], [(0, 1), (1, 1), (2, 6)], 0, 80, true⟩ := TyOk.mkAgg (by kernel_rfl) rfl (by kernel_rfl) (show Tryz.prog.underlying 26 = some (.struct _) from Tryz.underlying26) (by kernel_rfl) (by kernel_rfl) (fun _ => eq_26)
theorem ty_27 : TyOk Tryz.prog T 27 ⟨false, [.l 102], [], 0, 24, false⟩ := TyOk.mkOne (c := .l 102) Tryz.underlying27 rfl (by kernel_rfl) rfl rfl (by kernel_rfl)
theorem ty_28 : TyOk Tryz.prog T 28 ⟨true, [.i .i64, .i .i64, .i .i64, .l 3, .i .i64, .i .i64, .i .i64, .i .i64, .i .i64, .s, .s, .i .i64, .s, .s, .i .i64, .i .i64, .l 102], [(0, 1), (1, 1), (2, 1), (3, 1), (4, 8), (12, 1), (13, 1), (14, 1), (15, 1), (16, 1)], 0, 200, false⟩ := TyOk.mkAgg (by kernel_rfl) rfl (by kernel_rfl) (show Tryz.prog.underlying 28 = some (.struct _) from Tryz.underlying28) (by kernel_rfl) (by kernel_rfl) (fun h => by cases h)
theorem ty_29 : TyOk Tryz.prog T 29 ⟨true, [.i .i64, .i .i64, .i .i64, .l 3, .i .i64, .i .i64, .i .i64, .i .i64, .i .i64, .s, .s, .i .i64, .s, .s, .i .i64, .i .i64, .l 102], [(0, 1), (1, 1), (2, 1), (3, 1), (4, 8), (12, 1), (13, 1), (14, 1), (15, 1), (16, 1)], 0, 200, false⟩ := TyOk.mkAgg (by kernel_rfl) rfl (by kernel_rfl) (show Tryz.prog.underlying 29 = some (.struct _) from Tryz.underlying29) (by kernel_rfl) (by kernel_rfl) (fun h => by cases h)
theorem eq_32 : EqFact Tryz.prog 32 [.i .i64, .i .i64, .i .i64, .s, .s, .i .i64] := by
  refine ⟨by kernel_rfl, fun w a b ha hb => ?_⟩
  match a, ha, b, hb with
  | [.i x0, .i x1, .i x2, .s x3, .s x4, .i x5], _, [.i y0, .i y1, .i y2, .s y3, .s y4, .i y5], _ =>
    have u3 := Tryz.underlying3
    have a3 := Tryz.isAgg3
    have z3 := Tryz.sizeOf3
    have u9 := Tryz.underlying9
    have a9 := Tryz.isAgg9
    have z9 := Tryz.sizeOf9
    have hS : Tryz.prog.underlying 32 = some (.struct (Tryz.prog.fieldsOf 32)) := by kernel_rfl
    have hp : Tryz.prog.stoodInHeld 32 = false := by kernel_rfl
    simp only [valsOf, valOf]
    rw [show (10000 : Nat) = 9999 + 1 from rfl, run_equalIn_agg w 9999 32 _ _ hS hp]
    simp only [Program.fieldsOf, Tryz.underlying32, eqDs, eqD]
    go_simp
    by_cases h0 : x0 = y0
    ·
      by_cases h1 : x1 = y1
      ·
        by_cases h2 : x2 = y2
        ·
          by_cases h3 : x3.toList = y3.toList
          ·
            by_cases h4 : x4.toList = y4.toList
            ·
              by_cases h5 : x5 = y5
              · simp [h0, h1, h2, h3, h4, h5]
              · simp [h0, h1, h2, h3, h4, h5]
            · simp [h0, h1, h2, h3, h4]
          · simp [h0, h1, h2, h3]
        · simp [h0, h1, h2]
      · simp [h0, h1]
    · simp [h0]
theorem ty_32 : TyOk Tryz.prog T 32 ⟨true, [.i .i64, .i .i64, .i .i64, .s, .s, .i .i64], [(0, 1), (1, 1), (2, 1), (3, 1), (4, 1), (5, 1)], 0, 64, true⟩ := TyOk.mkAgg (by kernel_rfl) rfl (by kernel_rfl) (show Tryz.prog.underlying 32 = some (.struct _) from Tryz.underlying32) (by kernel_rfl) (by kernel_rfl) (fun _ => eq_32)
theorem ty_33 : TyOk Tryz.prog T 33 ⟨true, [.i .i64, .i .i64, .i .i64, .i .i64, .i .i64, .s, .s, .i .i64], [(0, 1), (1, 1), (2, 6)], 0, 80, false⟩ := TyOk.mkAgg (by kernel_rfl) rfl (by kernel_rfl) (show Tryz.prog.underlying 33 = some (.struct _) from Tryz.underlying33) (by kernel_rfl) (by kernel_rfl) (fun h => by cases h)
theorem eq_34 : EqFact Tryz.prog 34 [.i .i64, .i .i64, .i .i64, .i .i64, .i .i64, .s, .s, .i .i64] := by
  refine ⟨by kernel_rfl, fun w a b ha hb => ?_⟩
  match a, ha, b, hb with
  | [.i x0, .i x1, .i x2, .i x3, .i x4, .s x5, .s x6, .i x7], _, [.i y0, .i y1, .i y2, .i y3, .i y4, .s y5, .s y6, .i y7], _ =>
    have u3 := Tryz.underlying3
    have a3 := Tryz.isAgg3
    have z3 := Tryz.sizeOf3
    have u9 := Tryz.underlying9
    have a9 := Tryz.isAgg9
    have z9 := Tryz.sizeOf9
    have u32 := Tryz.underlying32
    have a32 := Tryz.isAgg32
    have z32 := Tryz.sizeOf32
    have hS : Tryz.prog.underlying 34 = some (.struct (Tryz.prog.fieldsOf 34)) := by kernel_rfl
    have hp : Tryz.prog.stoodInHeld 34 = false := by kernel_rfl
    have hS32 : Tryz.prog.underlying 32 = some (.struct (Tryz.prog.fieldsOf 32)) := by kernel_rfl
    have hp32 : Tryz.prog.stoodInHeld 32 = false := by kernel_rfl
    simp only [valsOf, valOf]
    rw [show (10000 : Nat) = 9999 + 1 from rfl, run_equalIn_agg w 9999 34 _ _ hS hp]
    simp only [Program.fieldsOf, Tryz.underlying34, eqDs, eqD]
    go_simp
    by_cases h0 : x0 = y0
    ·
      by_cases h1 : x1 = y1
      ·
        by_cases h2 : x2 = y2
        ·
          by_cases h3 : x3 = y3
          ·
            by_cases h4 : x4 = y4
            ·
              by_cases h5 : x5.toList = y5.toList
              ·
                by_cases h6 : x6.toList = y6.toList
                ·
                  by_cases h7 : x7 = y7
                  · simp [h0, h1, h2, h3, h4, h5, h6, h7]
                  · simp [h0, h1, h2, h3, h4, h5, h6, h7]
                · simp [h0, h1, h2, h3, h4, h5, h6]
              · simp [h0, h1, h2, h3, h4, h5]
            · simp [h0, h1, h2, h3, h4]
          · simp [h0, h1, h2, h3]
        · simp [h0, h1, h2]
      · simp [h0, h1]
    · simp [h0]
theorem ty_34 : TyOk Tryz.prog T 34 ⟨true, [.i .i64, .i .i64, .i .i64, .i .i64, .i .i64, .s, .s, .i .i64], [(0, 1), (1, 1), (2, 6)], 0, 80, true⟩ := TyOk.mkAgg (by kernel_rfl) rfl (by kernel_rfl) (show Tryz.prog.underlying 34 = some (.struct _) from Tryz.underlying34) (by kernel_rfl) (by kernel_rfl) (fun _ => eq_34)
theorem ty_35 : TyOk Tryz.prog T 35 ⟨false, [.l 74], [], 0, 24, false⟩ := TyOk.mkOne (c := .l 74) Tryz.underlying35 rfl (by kernel_rfl) rfl rfl (by kernel_rfl)
theorem ty_36 : TyOk Tryz.prog T 36 ⟨true, [.i .i64, .i .i64, .i .i64, .l 3, .i .i64, .i .i64, .i .i64, .i .i64, .i .i64, .s, .s, .i .i64, .s, .s, .i .i64, .i .i64, .l 74], [(0, 1), (1, 1), (2, 1), (3, 1), (4, 8), (12, 1), (13, 1), (14, 1), (15, 1), (16, 1)], 0, 200, false⟩ := TyOk.mkAgg (by kernel_rfl) rfl (by kernel_rfl) (show Tryz.prog.underlying 36 = some (.struct _) from Tryz.underlying36) (by kernel_rfl) (by kernel_rfl) (fun h => by cases h)
theorem ty_37 : TyOk Tryz.prog T 37 ⟨true, [.i .i64, .i .i64, .i .i64, .l 3, .i .i64, .i .i64, .i .i64, .i .i64, .i .i64, .s, .s, .i .i64, .s, .s, .i .i64, .i .i64, .l 74], [(0, 1), (1, 1), (2, 1), (3, 1), (4, 8), (12, 1), (13, 1), (14, 1), (15, 1), (16, 1)], 0, 200, false⟩ := TyOk.mkAgg (by kernel_rfl) rfl (by kernel_rfl) (show Tryz.prog.underlying 37 = some (.struct _) from Tryz.underlying37) (by kernel_rfl) (by kernel_rfl) (fun h => by cases h)
theorem ty_41 : TyOk Tryz.prog T 41 ⟨true, [.s, .i .i64], [(0, 1), (1, 1)], 0, 24, false⟩ := TyOk.mkAgg (by kernel_rfl) rfl (by kernel_rfl) (show Tryz.prog.underlying 41 = some (.struct _) from Tryz.underlying41) (by kernel_rfl) (by kernel_rfl) (fun h => by cases h)
theorem eq_42 : EqFact Tryz.prog 42 [.s, .i .i64] := by
  refine ⟨by kernel_rfl, fun w a b ha hb => ?_⟩
  match a, ha, b, hb with
  | [.s x0, .i x1], _, [.s y0, .i y1], _ =>
    have u3 := Tryz.underlying3
    have a3 := Tryz.isAgg3
    have z3 := Tryz.sizeOf3
    have u9 := Tryz.underlying9
    have a9 := Tryz.isAgg9
    have z9 := Tryz.sizeOf9
    have hS : Tryz.prog.underlying 42 = some (.struct (Tryz.prog.fieldsOf 42)) := by kernel_rfl
    have hp : Tryz.prog.stoodInHeld 42 = false := by kernel_rfl
    simp only [valsOf, valOf]
    rw [show (10000 : Nat) = 9999 + 1 from rfl, run_equalIn_agg w 9999 42 _ _ hS hp]
    simp only [Program.fieldsOf, Tryz.underlying42, eqDs, eqD]
    go_simp
    by_cases h0 : x0.toList = y0.toList
    ·
      by_cases h1 : x1 = y1
      · simp [h0, h1]
      · simp [h0, h1]
    · simp [h0]
theorem ty_42 : TyOk Tryz.prog T 42 ⟨true, [.s, .i .i64], [(0, 1), (1, 1)], 0, 24, true⟩ := TyOk.mkAgg (by kernel_rfl) rfl (by kernel_rfl) (show Tryz.prog.underlying 42 = some (.struct _) from Tryz.underlying42) (by kernel_rfl) (by kernel_rfl) (fun _ => eq_42)
theorem eq_44 : EqFact Tryz.prog 44 [.s, .i .i64] := by
  refine ⟨by kernel_rfl, fun w a b ha hb => ?_⟩
  match a, ha, b, hb with
  | [.s x0, .i x1], _, [.s y0, .i y1], _ =>
    have u3 := Tryz.underlying3
    have a3 := Tryz.isAgg3
    have z3 := Tryz.sizeOf3
    have u9 := Tryz.underlying9
    have a9 := Tryz.isAgg9
    have z9 := Tryz.sizeOf9
    have hS : Tryz.prog.underlying 44 = some (.struct (Tryz.prog.fieldsOf 44)) := by kernel_rfl
    have hp : Tryz.prog.stoodInHeld 44 = false := by kernel_rfl
    simp only [valsOf, valOf]
    rw [show (10000 : Nat) = 9999 + 1 from rfl, run_equalIn_agg w 9999 44 _ _ hS hp]
    simp only [Program.fieldsOf, Tryz.underlying44, eqDs, eqD]
    go_simp
    by_cases h0 : x0.toList = y0.toList
    ·
      by_cases h1 : x1 = y1
      · simp [h0, h1]
      · simp [h0, h1]
    · simp [h0]
theorem ty_44 : TyOk Tryz.prog T 44 ⟨true, [.s, .i .i64], [(0, 1), (1, 1)], 0, 24, true⟩ := TyOk.mkAgg (by kernel_rfl) rfl (by kernel_rfl) (show Tryz.prog.underlying 44 = some (.struct _) from Tryz.underlying44) (by kernel_rfl) (by kernel_rfl) (fun _ => eq_44)
theorem ty_50 : TyOk Tryz.prog T 50 ⟨false, [.l 29], [], 0, 24, false⟩ := TyOk.mkOne (c := .l 29) Tryz.underlying50 rfl (by kernel_rfl) rfl rfl (by kernel_rfl)
theorem ty_51 : TyOk Tryz.prog T 51 ⟨true, [.i .i64, .l 29], [(0, 1), (1, 1)], 0, 32, false⟩ := TyOk.mkAgg (by kernel_rfl) rfl (by kernel_rfl) (show Tryz.prog.underlying 51 = some (.struct _) from Tryz.underlying51) (by kernel_rfl) (by kernel_rfl) (fun h => by cases h)
theorem ty_52 : TyOk Tryz.prog T 52 ⟨true, [.i .i64, .l 29], [(0, 1), (1, 1)], 0, 32, false⟩ := TyOk.mkAgg (by kernel_rfl) rfl (by kernel_rfl) (show Tryz.prog.underlying 52 = some (.struct _) from Tryz.underlying52) (by kernel_rfl) (by kernel_rfl) (fun h => by cases h)
theorem ty_55 : TyOk Tryz.prog T 55 ⟨false, [.l 37], [], 0, 24, false⟩ := TyOk.mkOne (c := .l 37) Tryz.underlying55 rfl (by kernel_rfl) rfl rfl (by kernel_rfl)
theorem ty_56 : TyOk Tryz.prog T 56 ⟨true, [.i .i64, .l 37], [(0, 1), (1, 1)], 0, 32, false⟩ := TyOk.mkAgg (by kernel_rfl) rfl (by kernel_rfl) (show Tryz.prog.underlying 56 = some (.struct _) from Tryz.underlying56) (by kernel_rfl) (by kernel_rfl) (fun h => by cases h)
theorem ty_57 : TyOk Tryz.prog T 57 ⟨true, [.i .i64, .l 37], [(0, 1), (1, 1)], 0, 32, false⟩ := TyOk.mkAgg (by kernel_rfl) rfl (by kernel_rfl) (show Tryz.prog.underlying 57 = some (.struct _) from Tryz.underlying57) (by kernel_rfl) (by kernel_rfl) (fun h => by cases h)
theorem ty_65 : TyOk Tryz.prog T 65 ⟨false, [.l 9], [], 0, 24, false⟩ := TyOk.mkOne (c := .l 9) Tryz.underlying65 rfl (by kernel_rfl) rfl rfl (by kernel_rfl)
theorem ty_69 : TyOk Tryz.prog T 69 ⟨false, [.l 72], [], 0, 24, false⟩ := TyOk.mkOne (c := .l 72) Tryz.underlying69 rfl (by kernel_rfl) rfl rfl (by kernel_rfl)
theorem ty_70 : TyOk Tryz.prog T 70 ⟨false, [.l 112], [], 0, 24, false⟩ := TyOk.mkOne (c := .l 112) Tryz.underlying70 rfl (by kernel_rfl) rfl rfl (by kernel_rfl)
theorem ty_71 : TyOk Tryz.prog T 71 ⟨true, [.i .i64, .i .i64, .i .i64, .s, .l 72, .l 9, .l 112], [(0, 1), (1, 1), (2, 1), (3, 1), (4, 1), (5, 1), (6, 1)], 0, 112, false⟩ := TyOk.mkAgg (by kernel_rfl) rfl (by kernel_rfl) (show Tryz.prog.underlying 71 = some (.struct _) from Tryz.underlying71) (by kernel_rfl) (by kernel_rfl) (fun h => by cases h)
theorem ty_72 : TyOk Tryz.prog T 72 ⟨true, [.i .i64, .i .i64, .i .i64, .s, .l 72, .l 9, .l 112], [(0, 1), (1, 1), (2, 1), (3, 1), (4, 1), (5, 1), (6, 1)], 0, 112, false⟩ := TyOk.mkAgg (by kernel_rfl) rfl (by kernel_rfl) (show Tryz.prog.underlying 72 = some (.struct _) from Tryz.underlying72) (by kernel_rfl) (by kernel_rfl) (fun h => by cases h)
theorem ty_73 : TyOk Tryz.prog T 73 ⟨true, [.i .i64, .i .i64, .i .i64, .s, .i .i64, .i .i64, .i .i64, .s, .l 72, .l 9, .l 112], [(0, 1), (1, 1), (2, 1), (3, 1), (4, 7)], 0, 152, false⟩ := TyOk.mkAgg (by kernel_rfl) rfl (by kernel_rfl) (show Tryz.prog.underlying 73 = some (.struct _) from Tryz.underlying73) (by kernel_rfl) (by kernel_rfl) (fun h => by cases h)
theorem ty_74 : TyOk Tryz.prog T 74 ⟨true, [.i .i64, .i .i64, .i .i64, .s, .i .i64, .i .i64, .i .i64, .s, .l 72, .l 9, .l 112], [(0, 1), (1, 1), (2, 1), (3, 1), (4, 7)], 0, 152, false⟩ := TyOk.mkAgg (by kernel_rfl) rfl (by kernel_rfl) (show Tryz.prog.underlying 74 = some (.struct _) from Tryz.underlying74) (by kernel_rfl) (by kernel_rfl) (fun h => by cases h)
theorem ty_81 : TyOk Tryz.prog T 81 ⟨true, [.l 9, .b], [(0, 1), (1, 1)], 0, 32, false⟩ := TyOk.mkAgg (by kernel_rfl) rfl (by kernel_rfl) (show Tryz.prog.underlying 81 = some (.struct _) from Tryz.underlying81) (by kernel_rfl) (by kernel_rfl) (fun h => by cases h)
theorem ty_82 : TyOk Tryz.prog T 82 ⟨true, [.l 9, .b], [(0, 1), (1, 1)], 0, 32, false⟩ := TyOk.mkAgg (by kernel_rfl) rfl (by kernel_rfl) (show Tryz.prog.underlying 82 = some (.struct _) from Tryz.underlying82) (by kernel_rfl) (by kernel_rfl) (fun h => by cases h)
theorem ty_97 : TyOk Tryz.prog T 97 ⟨false, [.l 100], [], 0, 24, false⟩ := TyOk.mkOne (c := .l 100) Tryz.underlying97 rfl (by kernel_rfl) rfl rfl (by kernel_rfl)
theorem ty_98 : TyOk Tryz.prog T 98 ⟨false, [.l 155], [], 0, 24, false⟩ := TyOk.mkOne (c := .l 155) Tryz.underlying98 rfl (by kernel_rfl) rfl rfl (by kernel_rfl)
theorem ty_99 : TyOk Tryz.prog T 99 ⟨true, [.i .i64, .i .i64, .i .i64, .s, .l 100, .l 9, .l 155], [(0, 1), (1, 1), (2, 1), (3, 1), (4, 1), (5, 1), (6, 1)], 0, 112, false⟩ := TyOk.mkAgg (by kernel_rfl) rfl (by kernel_rfl) (show Tryz.prog.underlying 99 = some (.struct _) from Tryz.underlying99) (by kernel_rfl) (by kernel_rfl) (fun h => by cases h)
theorem ty_100 : TyOk Tryz.prog T 100 ⟨true, [.i .i64, .i .i64, .i .i64, .s, .l 100, .l 9, .l 155], [(0, 1), (1, 1), (2, 1), (3, 1), (4, 1), (5, 1), (6, 1)], 0, 112, false⟩ := TyOk.mkAgg (by kernel_rfl) rfl (by kernel_rfl) (show Tryz.prog.underlying 100 = some (.struct _) from Tryz.underlying100) (by kernel_rfl) (by kernel_rfl) (fun h => by cases h)
theorem ty_101 : TyOk Tryz.prog T 101 ⟨true, [.i .i64, .i .i64, .i .i64, .s, .i .i64, .i .i64, .i .i64, .s, .l 100, .l 9, .l 155], [(0, 1), (1, 1), (2, 1), (3, 1), (4, 7)], 0, 152, false⟩ := TyOk.mkAgg (by kernel_rfl) rfl (by kernel_rfl) (show Tryz.prog.underlying 101 = some (.struct _) from Tryz.underlying101) (by kernel_rfl) (by kernel_rfl) (fun h => by cases h)
theorem ty_102 : TyOk Tryz.prog T 102 ⟨true, [.i .i64, .i .i64, .i .i64, .s, .i .i64, .i .i64, .i .i64, .s, .l 100, .l 9, .l 155], [(0, 1), (1, 1), (2, 1), (3, 1), (4, 7)], 0, 152, false⟩ := TyOk.mkAgg (by kernel_rfl) rfl (by kernel_rfl) (show Tryz.prog.underlying 102 = some (.struct _) from Tryz.underlying102) (by kernel_rfl) (by kernel_rfl) (fun h => by cases h)
theorem ty_104 : TyOk Tryz.prog T 104 ⟨false, [.l 5], [], 0, 24, false⟩ := TyOk.mkOne (c := .l 5) Tryz.underlying104 rfl (by kernel_rfl) rfl rfl (by kernel_rfl)
theorem ty_110 : TyOk Tryz.prog T 110 ⟨false, [.l 125], [], 0, 24, false⟩ := TyOk.mkOne (c := .l 125) Tryz.underlying110 rfl (by kernel_rfl) rfl rfl (by kernel_rfl)
theorem ty_111 : TyOk Tryz.prog T 111 ⟨true, [.l 3, .l 125], [(0, 1), (1, 1)], 0, 48, false⟩ := TyOk.mkAgg (by kernel_rfl) rfl (by kernel_rfl) (show Tryz.prog.underlying 111 = some (.struct _) from Tryz.underlying111) (by kernel_rfl) (by kernel_rfl) (fun h => by cases h)
theorem ty_112 : TyOk Tryz.prog T 112 ⟨true, [.l 3, .l 125], [(0, 1), (1, 1)], 0, 48, false⟩ := TyOk.mkAgg (by kernel_rfl) rfl (by kernel_rfl) (show Tryz.prog.underlying 112 = some (.struct _) from Tryz.underlying112) (by kernel_rfl) (by kernel_rfl) (fun h => by cases h)
theorem ty_116 : TyOk Tryz.prog T 116 ⟨false, [.i .u64], [], 0, 8, false⟩ := TyOk.mkOne (c := .i .u64) Tryz.underlying116 rfl (by kernel_rfl) rfl rfl (by kernel_rfl)
theorem ty_117 : TyOk Tryz.prog T 117 ⟨false, [.i .u32], [], 0, 4, false⟩ := TyOk.mkOne (c := .i .u32) Tryz.underlying117 rfl (by kernel_rfl) rfl rfl (by kernel_rfl)
theorem ty_124 : TyOk Tryz.prog T 124 ⟨true, [.i .i64, .i .i64], [(0, 1), (1, 1)], 0, 16, false⟩ := TyOk.mkAgg (by kernel_rfl) rfl (by kernel_rfl) (show Tryz.prog.underlying 124 = some (.struct _) from Tryz.underlying124) (by kernel_rfl) (by kernel_rfl) (fun h => by cases h)
theorem eq_125 : EqFact Tryz.prog 125 [.i .i64, .i .i64] := by
  refine ⟨by kernel_rfl, fun w a b ha hb => ?_⟩
  match a, ha, b, hb with
  | [.i x0, .i x1], _, [.i y0, .i y1], _ =>
    have u3 := Tryz.underlying3
    have a3 := Tryz.isAgg3
    have z3 := Tryz.sizeOf3
    have hS : Tryz.prog.underlying 125 = some (.struct (Tryz.prog.fieldsOf 125)) := by kernel_rfl
    have hp : Tryz.prog.stoodInHeld 125 = false := by kernel_rfl
    simp only [valsOf, valOf]
    rw [show (10000 : Nat) = 9999 + 1 from rfl, run_equalIn_agg w 9999 125 _ _ hS hp]
    simp only [Program.fieldsOf, Tryz.underlying125, eqDs, eqD]
    go_simp
    by_cases h0 : x0 = y0
    ·
      by_cases h1 : x1 = y1
      · simp [h0, h1]
      · simp [h0, h1]
    · simp [h0]
theorem ty_125 : TyOk Tryz.prog T 125 ⟨true, [.i .i64, .i .i64], [(0, 1), (1, 1)], 0, 16, true⟩ := TyOk.mkAgg (by kernel_rfl) rfl (by kernel_rfl) (show Tryz.prog.underlying 125 = some (.struct _) from Tryz.underlying125) (by kernel_rfl) (by kernel_rfl) (fun _ => eq_125)
theorem ty_153 : TyOk Tryz.prog T 153 ⟨false, [.l 178], [], 0, 24, false⟩ := TyOk.mkOne (c := .l 178) Tryz.underlying153 rfl (by kernel_rfl) rfl rfl (by kernel_rfl)
theorem ty_154 : TyOk Tryz.prog T 154 ⟨true, [.l 3, .l 178], [(0, 1), (1, 1)], 0, 48, false⟩ := TyOk.mkAgg (by kernel_rfl) rfl (by kernel_rfl) (show Tryz.prog.underlying 154 = some (.struct _) from Tryz.underlying154) (by kernel_rfl) (by kernel_rfl) (fun h => by cases h)
theorem ty_155 : TyOk Tryz.prog T 155 ⟨true, [.l 3, .l 178], [(0, 1), (1, 1)], 0, 48, false⟩ := TyOk.mkAgg (by kernel_rfl) rfl (by kernel_rfl) (show Tryz.prog.underlying 155 = some (.struct _) from Tryz.underlying155) (by kernel_rfl) (by kernel_rfl) (fun h => by cases h)
theorem ty_164 : TyOk Tryz.prog T 164 ⟨false, [.i .u64], [], 0, 8, false⟩ := TyOk.mkOne (c := .i .u64) Tryz.underlying164 rfl (by kernel_rfl) rfl rfl (by kernel_rfl)
theorem eq_178 : EqFact Tryz.prog 178 [.i .i64, .i .i64] := by
  refine ⟨by kernel_rfl, fun w a b ha hb => ?_⟩
  match a, ha, b, hb with
  | [.i x0, .i x1], _, [.i y0, .i y1], _ =>
    have u3 := Tryz.underlying3
    have a3 := Tryz.isAgg3
    have z3 := Tryz.sizeOf3
    have hS : Tryz.prog.underlying 178 = some (.struct (Tryz.prog.fieldsOf 178)) := by kernel_rfl
    have hp : Tryz.prog.stoodInHeld 178 = false := by kernel_rfl
    simp only [valsOf, valOf]
    rw [show (10000 : Nat) = 9999 + 1 from rfl, run_equalIn_agg w 9999 178 _ _ hS hp]
    simp only [Program.fieldsOf, Tryz.underlying178, eqDs, eqD]
    go_simp
    by_cases h0 : x0 = y0
    ·
      by_cases h1 : x1 = y1
      · simp [h0, h1]
      · simp [h0, h1]
    · simp [h0]
theorem ty_178 : TyOk Tryz.prog T 178 ⟨true, [.i .i64, .i .i64], [(0, 1), (1, 1)], 0, 16, true⟩ := TyOk.mkAgg (by kernel_rfl) rfl (by kernel_rfl) (show Tryz.prog.underlying 178 = some (.struct _) from Tryz.underlying178) (by kernel_rfl) (by kernel_rfl) (fun _ => eq_178)
theorem ty_188 : TyOk Tryz.prog T 188 ⟨false, [.i .u8], [], 0, 1, false⟩ := TyOk.mkOne (c := .i .u8) Tryz.underlying188 rfl (by kernel_rfl) rfl rfl (by kernel_rfl)
theorem ty_189 : TyOk Tryz.prog T 189 ⟨false, [.i .u8], [], 0, 1, false⟩ := TyOk.mkOne (c := .i .u8) Tryz.underlying189 rfl (by kernel_rfl) rfl rfl (by kernel_rfl)
theorem ty_191 : TyOk Tryz.prog T 191 ⟨false, [.i .i32], [], 0, 4, false⟩ := TyOk.mkOne (c := .i .i32) Tryz.underlying191 rfl (by kernel_rfl) rfl rfl (by kernel_rfl)
theorem ty_192 : TyOk Tryz.prog T 192 ⟨false, [.i .i32], [], 0, 4, false⟩ := TyOk.mkOne (c := .i .i32) Tryz.underlying192 rfl (by kernel_rfl) rfl rfl (by kernel_rfl)
theorem tabT : TabOk Tryz.prog T := tabOk fun p hp => by
  simp only [tab, List.mem_cons, List.not_mem_nil, or_false] at hp
  rcases hp with rfl | rfl | rfl | rfl | rfl | rfl | rfl | rfl | rfl | rfl | rfl | rfl | rfl | rfl | rfl | rfl | rfl | rfl | rfl | rfl | rfl | rfl | rfl | rfl | rfl | rfl | rfl | rfl | rfl | rfl | rfl | rfl | rfl | rfl | rfl | rfl | rfl | rfl | rfl | rfl | rfl | rfl | rfl | rfl | rfl | rfl | rfl | rfl | rfl | rfl | rfl | rfl | rfl | rfl | rfl | rfl | rfl | rfl | rfl | rfl | rfl | rfl | rfl | rfl | rfl | rfl | rfl | rfl | rfl
  · exact ty_2
  · exact ty_3
  · exact ty_4
  · exact ty_5
  · exact ty_6
  · exact ty_7
  · exact ty_8
  · exact ty_9
  · exact ty_10
  · exact ty_11
  · exact ty_12
  · exact ty_13
  · exact ty_14
  · exact ty_21
  · exact ty_22
  · exact ty_23
  · exact ty_24
  · exact ty_25
  · exact ty_26
  · exact ty_27
  · exact ty_28
  · exact ty_29
  · exact ty_32
  · exact ty_33
  · exact ty_34
  · exact ty_35
  · exact ty_36
  · exact ty_37
  · exact ty_41
  · exact ty_42
  · exact ty_44
  · exact ty_50
  · exact ty_51
  · exact ty_52
  · exact ty_55
  · exact ty_56
  · exact ty_57
  · exact ty_65
  · exact ty_69
  · exact ty_70
  · exact ty_71
  · exact ty_72
  · exact ty_73
  · exact ty_74
  · exact ty_81
  · exact ty_82
  · exact ty_97
  · exact ty_98
  · exact ty_99
  · exact ty_100
  · exact ty_101
  · exact ty_102
  · exact ty_104
  · exact ty_110
  · exact ty_111
  · exact ty_112
  · exact ty_116
  · exact ty_117
  · exact ty_124
  · exact ty_125
  · exact ty_153
  · exact ty_154
  · exact ty_155
  · exact ty_164
  · exact ty_178
  · exact ty_188
  · exact ty_189
  · exact ty_191
  · exact ty_192
theorem mixed : Tryz.prog.follows .mixedOrders = true := by kernel_rfl
end Go.Proofs.YtdmipmbeolglaaaGreatDoor.Ab
