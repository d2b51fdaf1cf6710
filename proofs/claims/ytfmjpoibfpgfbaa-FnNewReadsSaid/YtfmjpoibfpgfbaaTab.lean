/- The table of the types whose values are data: printed by a program from the types as the model has them. -/
import Derived.Test.YtfmjpoibfpgfbaaM6
import Derived.Test.YtfmjpoibfpgfbaaFrame
import Derived.Laws.StructEq
namespace Go.Proofs.Ytfmjpoibfpgfbaa.Ab
open Go.RowKit
set_option linter.unusedVariables false
set_option maxRecDepth 100000
def tab : List (TypeId × Ty) := [
  (2, ⟨false, [.i .i64], [], 0, 8, false⟩),
  (3, ⟨false, [.i .i64], [], 0, 8, false⟩),
  (4, ⟨false, [.b], [], 0, 1, false⟩),
  (5, ⟨false, [.i .u8], [], 0, 1, false⟩),
  (6, ⟨false, [.i .u8], [], 0, 1, false⟩),
  (7, ⟨true, [.i .i64, .i .i64, .b, .i .u8], [(0, 1), (1, 1), (2, 1), (3, 1)], 0, 24, false⟩),
  (8, ⟨true, [.i .i64, .i .i64, .b, .i .u8], [(0, 1), (1, 1), (2, 1), (3, 1)], 0, 24, false⟩),
  (9, ⟨false, [.s], [], 0, 16, false⟩),
  (10, ⟨false, [.s], [], 0, 16, false⟩),
  (11, ⟨false, [.s], [], 0, 16, false⟩),
  (12, ⟨false, [.i .u64], [], 0, 8, false⟩),
  (13, ⟨true, [.s, .i .u64], [(0, 1), (1, 1)], 0, 24, false⟩),
  (14, ⟨true, [.s, .i .u64], [(0, 1), (1, 1)], 0, 24, false⟩),
  (21, ⟨false, [.i .i32], [], 0, 4, false⟩),
  (22, ⟨false, [.l 5], [], 0, 24, false⟩),
  (24, ⟨false, [.l 32], [], 0, 24, false⟩),
  (30, ⟨false, [.l 42], [], 0, 24, false⟩),
  (31, ⟨true, [.i .i64, .i .i64, .l 42], [(0, 1), (1, 1), (2, 1)], 0, 40, false⟩),
  (32, ⟨true, [.i .i64, .i .i64, .l 42], [(0, 1), (1, 1), (2, 1)], 0, 40, false⟩),
  (36, ⟨false, [.l 40], [], 0, 24, false⟩),
  (37, ⟨false, [.l 9], [], 0, 24, false⟩),
  (38, ⟨false, [.l 74], [], 0, 24, false⟩),
  (39, ⟨true, [.i .i64, .i .i64, .i .i64, .s, .l 40, .l 9, .l 74], [(0, 1), (1, 1), (2, 1), (3, 1), (4, 1), (5, 1), (6, 1)], 0, 112, false⟩),
  (40, ⟨true, [.i .i64, .i .i64, .i .i64, .s, .l 40, .l 9, .l 74], [(0, 1), (1, 1), (2, 1), (3, 1), (4, 1), (5, 1), (6, 1)], 0, 112, false⟩),
  (41, ⟨true, [.i .i64, .i .i64, .i .i64, .s, .i .i64, .i .i64, .i .i64, .s, .l 40, .l 9, .l 74], [(0, 1), (1, 1), (2, 1), (3, 1), (4, 7)], 0, 152, false⟩),
  (42, ⟨true, [.i .i64, .i .i64, .i .i64, .s, .i .i64, .i .i64, .i .i64, .s, .l 40, .l 9, .l 74], [(0, 1), (1, 1), (2, 1), (3, 1), (4, 7)], 0, 152, false⟩),
  (48, ⟨false, [.l 77], [], 0, 24, false⟩),
  (49, ⟨true, [.l 77], [(0, 1)], 0, 24, false⟩),
  (50, ⟨true, [.l 77], [(0, 1)], 0, 24, false⟩),
  (51, ⟨false, [.l 107], [], 0, 24, false⟩),
  (52, ⟨true, [.l 77, .l 32, .l 107], [(0, 1), (1, 1), (2, 1)], 0, 72, false⟩),
  (53, ⟨true, [.l 77, .l 32, .l 107], [(0, 1), (1, 1), (2, 1)], 0, 72, false⟩),
  (59, ⟨true, [.l 5, .i .i64, .i .i64], [(0, 1), (1, 1), (2, 1)], 0, 40, false⟩),
  (60, ⟨true, [.l 5, .i .i64, .i .i64], [(0, 1), (1, 1), (2, 1)], 0, 40, false⟩),
  (71, ⟨false, [.l 3], [], 0, 24, false⟩),
  (72, ⟨false, [.l 87], [], 0, 24, false⟩),
  (73, ⟨true, [.l 3, .l 87], [(0, 1), (1, 1)], 0, 48, false⟩),
  (74, ⟨true, [.l 3, .l 87], [(0, 1), (1, 1)], 0, 48, false⟩),
  (76, ⟨true, [.i .i64, .i .i64, .i .i64, .s, .s, .i .i64], [(0, 1), (1, 1), (2, 1), (3, 1), (4, 1), (5, 1)], 0, 64, false⟩),
  (77, ⟨true, [.i .i64, .i .i64, .i .i64, .s, .s, .i .i64], [(0, 1), (1, 1), (2, 1), (3, 1), (4, 1), (5, 1)], 0, 64, true⟩),
  (79, ⟨false, [.i .u64], [], 0, 8, false⟩),
  (86, ⟨true, [.i .i64, .i .i64], [(0, 1), (1, 1)], 0, 16, false⟩),
  (87, ⟨true, [.i .i64, .i .i64], [(0, 1), (1, 1)], 0, 16, true⟩),
  (95, ⟨false, [.i .u32], [], 0, 4, false⟩),
  (96, ⟨false, [.i .u8], [], 0, 1, false⟩),
  (97, ⟨false, [.i .u8], [], 0, 1, false⟩),
  (100, ⟨false, [.i .i32], [], 0, 4, false⟩),
  (101, ⟨false, [.i .i32], [], 0, 4, false⟩),
  (104, ⟨true, [.i .i64, .i .i64, .i .i64, .i .i64, .i .i64, .s, .s, .i .i64], [(0, 1), (1, 1), (2, 6)], 0, 80, false⟩),
  (105, ⟨true, [.i .i64, .i .i64, .i .i64, .i .i64, .i .i64, .s, .s, .i .i64], [(0, 1), (1, 1), (2, 6)], 0, 80, true⟩),
  (106, ⟨true, [.i .i64, .i .i64, .i .i64, .l 3, .i .i64, .i .i64, .i .i64, .i .i64, .i .i64, .s, .s, .i .i64, .s, .s, .i .i64, .i .i64, .l 42], [(0, 1), (1, 1), (2, 1), (3, 1), (4, 8), (12, 1), (13, 1), (14, 1), (15, 1), (16, 1)], 0, 200, false⟩),
  (107, ⟨true, [.i .i64, .i .i64, .i .i64, .l 3, .i .i64, .i .i64, .i .i64, .i .i64, .i .i64, .s, .s, .i .i64, .s, .s, .i .i64, .i .i64, .l 42], [(0, 1), (1, 1), (2, 1), (3, 1), (4, 8), (12, 1), (13, 1), (14, 1), (15, 1), (16, 1)], 0, 200, false⟩)]
abbrev T : Tab := tabOf tab
theorem ty_2 : TyOk Try.prog T 2 ⟨false, [.i .i64], [], 0, 8, false⟩ := TyOk.mkOne (c := .i .i64) Try.underlying2 rfl (by kernel_rfl) rfl rfl (by kernel_rfl)
theorem ty_3 : TyOk Try.prog T 3 ⟨false, [.i .i64], [], 0, 8, false⟩ := TyOk.mkOne (c := .i .i64) Try.underlying3 rfl (by kernel_rfl) rfl rfl (by kernel_rfl)
theorem ty_4 : TyOk Try.prog T 4 ⟨false, [.b], [], 0, 1, false⟩ := TyOk.mkOne (c := .b) Try.underlying4 rfl (by kernel_rfl) rfl rfl (by kernel_rfl)
theorem ty_5 : TyOk Try.prog T 5 ⟨false, [.i .u8], [], 0, 1, false⟩ := TyOk.mkOne (c := .i .u8) Try.underlying5 rfl (by kernel_rfl) rfl rfl (by kernel_rfl)
theorem ty_6 : TyOk Try.prog T 6 ⟨false, [.i .u8], [], 0, 1, false⟩ := TyOk.mkOne (c := .i .u8) Try.underlying6 rfl (by kernel_rfl) rfl rfl (by kernel_rfl)
theorem ty_7 : TyOk Try.prog T 7 ⟨true, [.i .i64, .i .i64, .b, .i .u8], [(0, 1), (1, 1), (2, 1), (3, 1)], 0, 24, false⟩ := TyOk.mkAgg (by kernel_rfl) rfl (by kernel_rfl) (show Try.prog.underlying 7 = some (.struct _) from Try.underlying7) (by kernel_rfl) (by kernel_rfl) (fun h => by cases h)
theorem ty_8 : TyOk Try.prog T 8 ⟨true, [.i .i64, .i .i64, .b, .i .u8], [(0, 1), (1, 1), (2, 1), (3, 1)], 0, 24, false⟩ := TyOk.mkAgg (by kernel_rfl) rfl (by kernel_rfl) (show Try.prog.underlying 8 = some (.struct _) from Try.underlying8) (by kernel_rfl) (by kernel_rfl) (fun h => by cases h)
theorem ty_9 : TyOk Try.prog T 9 ⟨false, [.s], [], 0, 16, false⟩ := TyOk.mkOne (c := .s) Try.underlying9 rfl (by kernel_rfl) rfl rfl (by kernel_rfl)
theorem ty_10 : TyOk Try.prog T 10 ⟨false, [.s], [], 0, 16, false⟩ := TyOk.mkOne (c := .s) Try.underlying10 rfl (by kernel_rfl) rfl rfl (by kernel_rfl)
theorem ty_11 : TyOk Try.prog T 11 ⟨false, [.s], [], 0, 16, false⟩ := TyOk.mkOne (c := .s) Try.underlying11 rfl (by kernel_rfl) rfl rfl (by kernel_rfl)
theorem ty_12 : TyOk Try.prog T 12 ⟨false, [.i .u64], [], 0, 8, false⟩ := TyOk.mkOne (c := .i .u64) Try.underlying12 rfl (by kernel_rfl) rfl rfl (by kernel_rfl)
theorem ty_13 : TyOk Try.prog T 13 ⟨true, [.s, .i .u64], [(0, 1), (1, 1)], 0, 24, false⟩ := TyOk.mkAgg (by kernel_rfl) rfl (by kernel_rfl) (show Try.prog.underlying 13 = some (.struct _) from Try.underlying13) (by kernel_rfl) (by kernel_rfl) (fun h => by cases h)
theorem ty_14 : TyOk Try.prog T 14 ⟨true, [.s, .i .u64], [(0, 1), (1, 1)], 0, 24, false⟩ := TyOk.mkAgg (by kernel_rfl) rfl (by kernel_rfl) (show Try.prog.underlying 14 = some (.struct _) from Try.underlying14) (by kernel_rfl) (by kernel_rfl) (fun h => by cases h)
theorem ty_21 : TyOk Try.prog T 21 ⟨false, [.i .i32], [], 0, 4, false⟩ := TyOk.mkOne (c := .i .i32) Try.underlying21 rfl (by kernel_rfl) rfl rfl (by kernel_rfl)
theorem ty_22 : TyOk Try.prog T 22 ⟨false, [.l 5], [], 0, 24, false⟩ := TyOk.mkOne (c := .l 5) Try.underlying22 rfl (by kernel_rfl) rfl rfl (by kernel_rfl)
theorem ty_24 : TyOk Try.prog T 24 ⟨false, [.l 32], [], 0, 24, false⟩ := TyOk.mkOne (c := .l 32) Try.underlying24 rfl (by kernel_rfl) rfl rfl (by kernel_rfl)
theorem ty_30 : TyOk Try.prog T 30 ⟨false, [.l 42], [], 0, 24, false⟩ := TyOk.mkOne (c := .l 42) Try.underlying30 rfl (by kernel_rfl) rfl rfl (by kernel_rfl)
theorem ty_31 : TyOk Try.prog T 31 ⟨true, [.i .i64, .i .i64, .l 42], [(0, 1), (1, 1), (2, 1)], 0, 40, false⟩ := TyOk.mkAgg (by kernel_rfl) rfl (by kernel_rfl) (show Try.prog.underlying 31 = some (.struct _) from Try.underlying31) (by kernel_rfl) (by kernel_rfl) (fun h => by cases h)
theorem ty_32 : TyOk Try.prog T 32 ⟨true, [.i .i64, .i .i64, .l 42], [(0, 1), (1, 1), (2, 1)], 0, 40, false⟩ := TyOk.mkAgg (by kernel_rfl) rfl (by kernel_rfl) (show Try.prog.underlying 32 = some (.struct _) from Try.underlying32) (by kernel_rfl) (by kernel_rfl) (fun h => by cases h)
theorem ty_36 : TyOk Try.prog T 36 ⟨false, [.l 40], [], 0, 24, false⟩ := TyOk.mkOne (c := .l 40) Try.underlying36 rfl (by kernel_rfl) rfl rfl (by kernel_rfl)
theorem ty_37 : TyOk Try.prog T 37 ⟨false, [.l 9], [], 0, 24, false⟩ := TyOk.mkOne (c := .l 9) Try.underlying37 rfl (by kernel_rfl) rfl rfl (by kernel_rfl)
theorem ty_38 : TyOk Try.prog T 38 ⟨false, [.l 74], [], 0, 24, false⟩ := TyOk.mkOne (c := .l 74) Try.underlying38 rfl (by kernel_rfl) rfl rfl (by kernel_rfl)
theorem ty_39 : TyOk Try.prog T 39 ⟨true, [.i .i64, .i .i64, .i .i64, .s, .l 40, .l 9, .l 74], [(0, 1), (1, 1), (2, 1), (3, 1), (4, 1), (5, 1), (6, 1)], 0, 112, false⟩ := TyOk.mkAgg (by kernel_rfl) rfl (by kernel_rfl) (show Try.prog.underlying 39 = some (.struct _) from Try.underlying39) (by kernel_rfl) (by kernel_rfl) (fun h => by cases h)
theorem ty_40 : TyOk Try.prog T 40 ⟨true, [.i .i64, .i .i64, .i .i64, .s, .l 40, .l 9, .l 74], [(0, 1), (1, 1), (2, 1), (3, 1), (4, 1), (5, 1), (6, 1)], 0, 112, false⟩ := TyOk.mkAgg (by kernel_rfl) rfl (by kernel_rfl) (show Try.prog.underlying 40 = some (.struct _) from Try.underlying40) (by kernel_rfl) (by kernel_rfl) (fun h => by cases h)
theorem ty_41 : TyOk Try.prog T 41 ⟨true, [.i .i64, .i .i64, .i .i64, .s, .i .i64, .i .i64, .i .i64, .s, .l 40, .l 9, .l 74], [(0, 1), (1, 1), (2, 1), (3, 1), (4, 7)], 0, 152, false⟩ := TyOk.mkAgg (by kernel_rfl) rfl (by kernel_rfl) (show Try.prog.underlying 41 = some (.struct _) from Try.underlying41) (by kernel_rfl) (by kernel_rfl) (fun h => by cases h)
theorem ty_42 : TyOk Try.prog T 42 ⟨true, [.i .i64, .i .i64, .i .i64, .s, .i .i64, .i .i64, .i .i64, .s, .l 40, .l 9, .l 74], [(0, 1), (1, 1), (2, 1), (3, 1), (4, 7)], 0, 152, false⟩ := TyOk.mkAgg (by kernel_rfl) rfl (by kernel_rfl) (show Try.prog.underlying 42 = some (.struct _) from Try.underlying42) (by kernel_rfl) (by kernel_rfl) (fun h => by cases h)
theorem ty_48 : TyOk Try.prog T 48 ⟨false, [.l 77], [], 0, 24, false⟩ := TyOk.mkOne (c := .l 77) Try.underlying48 rfl (by kernel_rfl) rfl rfl (by kernel_rfl)
theorem ty_49 : TyOk Try.prog T 49 ⟨true, [.l 77], [(0, 1)], 0, 24, false⟩ := TyOk.mkAgg (by kernel_rfl) rfl (by kernel_rfl) (show Try.prog.underlying 49 = some (.struct _) from Try.underlying49) (by kernel_rfl) (by kernel_rfl) (fun h => by cases h)
theorem ty_50 : TyOk Try.prog T 50 ⟨true, [.l 77], [(0, 1)], 0, 24, false⟩ := TyOk.mkAgg (by kernel_rfl) rfl (by kernel_rfl) (show Try.prog.underlying 50 = some (.struct _) from Try.underlying50) (by kernel_rfl) (by kernel_rfl) (fun h => by cases h)
theorem ty_51 : TyOk Try.prog T 51 ⟨false, [.l 107], [], 0, 24, false⟩ := TyOk.mkOne (c := .l 107) Try.underlying51 rfl (by kernel_rfl) rfl rfl (by kernel_rfl)
theorem ty_52 : TyOk Try.prog T 52 ⟨true, [.l 77, .l 32, .l 107], [(0, 1), (1, 1), (2, 1)], 0, 72, false⟩ := TyOk.mkAgg (by kernel_rfl) rfl (by kernel_rfl) (show Try.prog.underlying 52 = some (.struct _) from Try.underlying52) (by kernel_rfl) (by kernel_rfl) (fun h => by cases h)
theorem ty_53 : TyOk Try.prog T 53 ⟨true, [.l 77, .l 32, .l 107], [(0, 1), (1, 1), (2, 1)], 0, 72, false⟩ := TyOk.mkAgg (by kernel_rfl) rfl (by kernel_rfl) (show Try.prog.underlying 53 = some (.struct _) from Try.underlying53) (by kernel_rfl) (by kernel_rfl) (fun h => by cases h)
theorem ty_59 : TyOk Try.prog T 59 ⟨true, [.l 5, .i .i64, .i .i64], [(0, 1), (1, 1), (2, 1)], 0, 40, false⟩ := TyOk.mkAgg (by kernel_rfl) rfl (by kernel_rfl) (show Try.prog.underlying 59 = some (.struct _) from Try.underlying59) (by kernel_rfl) (by kernel_rfl) (fun h => by cases h)
theorem ty_60 : TyOk Try.prog T 60 ⟨true, [.l 5, .i .i64, .i .i64], [(0, 1), (1, 1), (2, 1)], 0, 40, false⟩ := TyOk.mkAgg (by kernel_rfl) rfl (by kernel_rfl) (show Try.prog.underlying 60 = some (.struct _) from Try.underlying60) (by kernel_rfl) (by kernel_rfl) (fun h => by cases h)
theorem ty_71 : TyOk Try.prog T 71 ⟨false, [.l 3], [], 0, 24, false⟩ := TyOk.mkOne (c := .l 3) Try.underlying71 rfl (by kernel_rfl) rfl rfl (by kernel_rfl)
theorem ty_72 : TyOk Try.prog T 72 ⟨false, [.l 87], [], 0, 24, false⟩ := TyOk.mkOne (c := .l 87) Try.underlying72 rfl (by kernel_rfl) rfl rfl (by kernel_rfl)
theorem ty_73 : TyOk Try.prog T 73 ⟨true, [.l 3, .l 87], [(0, 1), (1, 1)], 0, 48, false⟩ := TyOk.mkAgg (by kernel_rfl) rfl (by kernel_rfl) (show Try.prog.underlying 73 = some (.struct _) from Try.underlying73) (by kernel_rfl) (by kernel_rfl) (fun h => by cases h)
theorem ty_74 : TyOk Try.prog T 74 ⟨true, [.l 3, .l 87], [(0, 1), (1, 1)], 0, 48, false⟩ := TyOk.mkAgg (by kernel_rfl) rfl (by kernel_rfl) (show Try.prog.underlying 74 = some (.struct _) from Try.underlying74) (by kernel_rfl) (by kernel_rfl) (fun h => by cases h)
theorem ty_76 : TyOk Try.prog T 76 ⟨true, [.i .i64, .i .i64, .i .i64, .s, .s, .i .i64], [(0, 1), (1, 1), (2, 1), (3, 1), (4, 1), (5, 1)], 0, 64, false⟩ := TyOk.mkAgg (by kernel_rfl) rfl (by kernel_rfl) (show Try.prog.underlying 76 = some (.struct _) from Try.underlying76) (by kernel_rfl) (by kernel_rfl) (fun h => by cases h)
theorem eq_77 : EqFact Try.prog 77 [.i .i64, .i .i64, .i .i64, .s, .s, .i .i64] := by
  refine ⟨by kernel_rfl, fun w a b ha hb => ?_⟩
  match a, ha, b, hb with
  | [.i x0, .i x1, .i x2, .s x3, .s x4, .i x5], _, [.i y0, .i y1, .i y2, .s y3, .s y4, .i y5], _ =>
    have u3 := Try.underlying3
    have a3 := Try.isAgg3
    have z3 := Try.sizeOf3
    have u9 := Try.underlying9
    have a9 := Try.isAgg9
    have z9 := Try.sizeOf9
    have hS : Try.prog.underlying 77 = some (.struct (Try.prog.fieldsOf 77)) := by kernel_rfl
    have hp : Try.prog.stoodInHeld 77 = false := by kernel_rfl
    simp only [valsOf, valOf]
    rw [show (10000 : Nat) = 9999 + 1 from rfl, run_equalIn_agg w 9999 77 _ _ hS hp]
    simp only [Program.fieldsOf, Try.underlying77, eqDs, eqD]
    go_simp
    by_cases h0 : x0 = y0
    ·
      by_cases h1 : x1 = y1
      ·
        by_cases h2 : x2 = y2
        ·
          by_cases h3 : x3.toList = y3.toList
          ·
            by_cases h4 : x4.toList = y4.toList
            ·
              by_cases h5 : x5 = y5
              · simp [h0, h1, h2, h3, h4, h5]
              · simp [h0, h1, h2, h3, h4, h5]
            · simp [h0, h1, h2, h3, h4]
          · simp [h0, h1, h2, h3]
        · simp [h0, h1, h2]
      · simp [h0, h1]
    · simp [h0]
theorem ty_77 : TyOk Try.prog T 77 ⟨true, [.i .i64, .i .i64, .i .i64, .s, .s, .i .i64], [(0, 1), (1, 1), (2, 1), (3, 1), (4, 1), (5, 1)], 0, 64, true⟩ := TyOk.mkAgg (by kernel_rfl) rfl (by kernel_rfl) (show Try.prog.underlying 77 = some (.struct _) from Try.underlying77) (by kernel_rfl) (by kernel_rfl) (fun _ => eq_77)
theorem ty_79 : TyOk Try.prog T 79 ⟨false, [.i .u64], [], 0, 8, false⟩ := TyOk.mkOne (c := .i .u64) Try.underlying79 rfl (by kernel_rfl) rfl rfl (by kernel_rfl)
theorem ty_86 : TyOk Try.prog T 86 ⟨true, [.i .i64, .i .i64], [(0, 1), (1, 1)], 0, 16, false⟩ := TyOk.mkAgg (by kernel_rfl) rfl (by kernel_rfl) (show Try.prog.underlying 86 = some (.struct _) from Try.underlying86) (by kernel_rfl) (by kernel_rfl) (fun h => by cases h)
theorem eq_87 : EqFact Try.prog 87 [.i .i64, .i .i64] := by
  refine ⟨by kernel_rfl, fun w a b ha hb => ?_⟩
  match a, ha, b, hb with
  | [.i x0, .i x1], _, [.i y0, .i y1], _ =>
    have u3 := Try.underlying3
    have a3 := Try.isAgg3
    have z3 := Try.sizeOf3
    have hS : Try.prog.underlying 87 = some (.struct (Try.prog.fieldsOf 87)) := by kernel_rfl
    have hp : Try.prog.stoodInHeld 87 = false := by kernel_rfl
    simp only [valsOf, valOf]
    rw [show (10000 : Nat) = 9999 + 1 from rfl, run_equalIn_agg w 9999 87 _ _ hS hp]
    simp only [Program.fieldsOf, Try.underlying87, eqDs, eqD]
    go_simp
    by_cases h0 : x0 = y0
    ·
      by_cases h1 : x1 = y1
      · simp [h0, h1]
      · simp [h0, h1]
    · simp [h0]
theorem ty_87 : TyOk Try.prog T 87 ⟨true, [.i .i64, .i .i64], [(0, 1), (1, 1)], 0, 16, true⟩ := TyOk.mkAgg (by kernel_rfl) rfl (by kernel_rfl) (show Try.prog.underlying 87 = some (.struct _) from Try.underlying87) (by kernel_rfl) (by kernel_rfl) (fun _ => eq_87)
theorem ty_95 : TyOk Try.prog T 95 ⟨false, [.i .u32], [], 0, 4, false⟩ := TyOk.mkOne (c := .i .u32) Try.underlying95 rfl (by kernel_rfl) rfl rfl (by kernel_rfl)
theorem ty_96 : TyOk Try.prog T 96 ⟨false, [.i .u8], [], 0, 1, false⟩ := TyOk.mkOne (c := .i .u8) Try.underlying96 rfl (by kernel_rfl) rfl rfl (by kernel_rfl)
theorem ty_97 : TyOk Try.prog T 97 ⟨false, [.i .u8], [], 0, 1, false⟩ := TyOk.mkOne (c := .i .u8) Try.underlying97 rfl (by kernel_rfl) rfl rfl (by kernel_rfl)
theorem ty_100 : TyOk Try.prog T 100 ⟨false, [.i .i32], [], 0, 4, false⟩ := TyOk.mkOne (c := .i .i32) Try.underlying100 rfl (by kernel_rfl) rfl rfl (by kernel_rfl)
theorem ty_101 : TyOk Try.prog T 101 ⟨false, [.i .i32], [], 0, 4, false⟩ := TyOk.mkOne (c := .i .i32) Try.underlying101 rfl (by kernel_rfl) rfl rfl (by kernel_rfl)
theorem ty_104 : TyOk Try.prog T 104 ⟨true, [.i .i64, .i .i64, .i .i64, .i .i64, .i .i64, .s, .s, .i .i64], [(0, 1), (1, 1), (2, 6)], 0, 80, false⟩ := TyOk.mkAgg (by kernel_rfl) rfl (by kernel_rfl) (show Try.prog.underlying 104 = some (.struct _) from Try.underlying104) (by kernel_rfl) (by kernel_rfl) (fun h => by cases h)
theorem eq_105 : EqFact Try.prog 105 [.i .i64, .i .i64, .i .i64, .i .i64, .i .i64, .s, .s, .i .i64] := by
  refine ⟨by kernel_rfl, fun w a b ha hb => ?_⟩
  match a, ha, b, hb with
  | [.i x0, .i x1, .i x2, .i x3, .i x4, .s x5, .s x6, .i x7], _, [.i y0, .i y1, .i y2, .i y3, .i y4, .s y5, .s y6, .i y7], _ =>
    have u3 := Try.underlying3
    have a3 := Try.isAgg3
    have z3 := Try.sizeOf3
    have u9 := Try.underlying9
    have a9 := Try.isAgg9
    have z9 := Try.sizeOf9
    have u77 := Try.underlying77
    have a77 := Try.isAgg77
    have z77 := Try.sizeOf77
    have hS : Try.prog.underlying 105 = some (.struct (Try.prog.fieldsOf 105)) := by kernel_rfl
    have hp : Try.prog.stoodInHeld 105 = false := by kernel_rfl
    have hS77 : Try.prog.underlying 77 = some (.struct (Try.prog.fieldsOf 77)) := by kernel_rfl
    have hp77 : Try.prog.stoodInHeld 77 = false := by kernel_rfl
    simp only [valsOf, valOf]
    rw [show (10000 : Nat) = 9999 + 1 from rfl, run_equalIn_agg w 9999 105 _ _ hS hp]
    simp only [Program.fieldsOf, Try.underlying105, eqDs, eqD]
    go_simp
    by_cases h0 : x0 = y0
    ·
      by_cases h1 : x1 = y1
      ·
        by_cases h2 : x2 = y2
        ·
          by_cases h3 : x3 = y3
          ·
            by_cases h4 : x4 = y4
            ·
              by_cases h5 : x5.toList = y5.toList
              ·
                by_cases h6 : x6.toList = y6.toList
                ·
                  by_cases h7 : x7 = y7
                  · simp [h0, h1, h2, h3, h4, h5, h6, h7]
                  · simp [h0, h1, h2, h3, h4, h5, h6, h7]
                · simp [h0, h1, h2, h3, h4, h5, h6]
              · simp [h0, h1, h2, h3, h4, h5]
            · simp [h0, h1, h2, h3, h4]
          · simp [h0, h1, h2, h3]
        · simp [h0, h1, h2]
      · simp [h0, h1]
    · simp [h0]
theorem ty_105 : TyOk Try.prog T 105 ⟨true, [.i .i64, .i .i64, .i .i64, .i .i64, .i .i64, .s, .s, .i .i64], [(0, 1), (1, 1), (2, 6)], 0, 80, true⟩ := TyOk.mkAgg (by kernel_rfl) rfl (by kernel_rfl) (show Try.prog.underlying 105 = some (.struct _) from Try.underlying105) (by kernel_rfl) (by kernel_rfl) (fun _ => eq_105)
theorem ty_106 : TyOk Try.prog T 106 ⟨true, [.i .i64, .i .i64, .i .i64, .l 3, .i .i64, .i .i64, .i .i64, .i .i64, .i .i64, .s, .s, .i .i64, .s, .s, .i .i64, .i .i64, .l 42], [(0, 1), (1, 1), (2, 1), (3, 1), (4, 8), (12, 1), (13, 1), (14, 1), (15, 1), (16, 1)], 0, 200, false⟩ := TyOk.mkAgg (by kernel_rfl) rfl (by kernel_rfl) (show Try.prog.underlying 106 = some (.struct _) from Try.underlying106) (by kernel_rfl) (by kernel_rfl) (fun h => by cases h)
theorem ty_107 : TyOk Try.prog T 107 ⟨true, [.i .i64, .i .i64, .i .i64, .l 3, .i .i64, .i .i64, .i .i64, .i .i64, .i .i64, .s, .s, .i .i64, .s, .s, .i .i64, .i .i64, .l 42], [(0, 1), (1, 1), (2, 1), (3, 1), (4, 8), (12, 1), (13, 1), (14, 1), (15, 1), (16, 1)], 0, 200, false⟩ := TyOk.mkAgg (by kernel_rfl) rfl (by kernel_rfl) (show Try.prog.underlying 107 = some (.struct _) from Try.underlying107) (by kernel_rfl) (by kernel_rfl) (fun h => by cases h)
theorem tabT : TabOk Try.prog T := tabOk fun p hp => by
  simp only [tab, List.mem_cons, List.not_mem_nil, or_false] at hp
  rcases hp with rfl | rfl | rfl | rfl | rfl | rfl | rfl | rfl | rfl | rfl | rfl | rfl | rfl | rfl | rfl | rfl | rfl | rfl | rfl | rfl | rfl | rfl | rfl | rfl | rfl | rfl | rfl | rfl | rfl | rfl | rfl | rfl | rfl | rfl | rfl | rfl | rfl | rfl | rfl | rfl | rfl | rfl | rfl | rfl | rfl | rfl | rfl | rfl | rfl | rfl | rfl | rfl
  · exact ty_2
  · exact ty_3
  · exact ty_4
  · exact ty_5
  · exact ty_6
  · exact ty_7
  · exact ty_8
  · exact ty_9
  · exact ty_10
  · exact ty_11
  · exact ty_12
  · exact ty_13
  · exact ty_14
  · exact ty_21
  · exact ty_22
  · exact ty_24
  · exact ty_30
  · exact ty_31
  · exact ty_32
  · exact ty_36
  · exact ty_37
  · exact ty_38
  · exact ty_39
  · exact ty_40
  · exact ty_41
  · exact ty_42
  · exact ty_48
  · exact ty_49
  · exact ty_50
  · exact ty_51
  · exact ty_52
  · exact ty_53
  · exact ty_59
  · exact ty_60
  · exact ty_71
  · exact ty_72
  · exact ty_73
  · exact ty_74
  · exact ty_76
  · exact ty_77
  · exact ty_79
  · exact ty_86
  · exact ty_87
  · exact ty_95
  · exact ty_96
  · exact ty_97
  · exact ty_100
  · exact ty_101
  · exact ty_104
  · exact ty_105
  · exact ty_106
  · exact ty_107
theorem mixed : Try.prog.follows .mixedOrders = true := by kernel_rfl
end Go.Proofs.Ytfmjpoibfpgfbaa.Ab
