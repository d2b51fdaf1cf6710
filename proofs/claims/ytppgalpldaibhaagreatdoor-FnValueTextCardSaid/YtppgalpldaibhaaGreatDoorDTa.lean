/- The table of the types whose values are data: printed by a program from the types as the model has them. Descriptions of functions on data: comparisons, weights, copies. No program in sight but for the table of types. From the statement's own reading of its arguments to readings as data. P is any program. -/
import Derived.Test.YtppgalpldaibhaaGreatDoorDK6
import Derived.Test.YtppgalpldaibhaaGreatDoorDFa
import Derived.Laws.StructEq
import Derived.Carry
import Derived.WalkKit
namespace Go.Proofs.YtppgalpldaibhaaGreatDoor.Ab
open Go.RowKit
set_option linter.unusedVariables false
set_option maxRecDepth 100000
def tab:List (TypeId × Ty):=[
  (2,⟨false,[.i .i64],[],0,8,false⟩),
  (3,⟨false,[.i .i64],[],0,8,false⟩),
  (4,⟨false,[.b],[],0,1,false⟩),
  (5,⟨false,[.i .u8],[],0,1,false⟩),
  (6,⟨false,[.i .u8],[],0,1,false⟩),
  (7,⟨true,[.i .i64,.i .i64,.b,.i .u8],[(0,1),(1,1),(2,1),(3,1)],0,24,false⟩),
  (8,⟨true,[.i .i64,.i .i64,.b,.i .u8],[(0,1),(1,1),(2,1),(3,1)],0,24,false⟩),
  (9,⟨false,[.s],[],0,16,false⟩),
  (10,⟨false,[.s],[],0,16,false⟩),
  (11,⟨false,[.s],[],0,16,false⟩),
  (12,⟨false,[.i .u64],[],0,8,false⟩),
  (13,⟨true,[.s,.i .u64],[(0,1),(1,1)],0,24,false⟩),
  (14,⟨true,[.s,.i .u64],[(0,1),(1,1)],0,24,false⟩),
  (21,⟨false,[.i .i32],[],0,4,false⟩),
  (22,⟨true,[.s,.i .i64],[(0,1),(1,1)],0,24,false⟩),
  (23,⟨true,[.s,.i .i64],[(0,1),(1,1)],0,24,true⟩),
  (27,⟨false,[.l 5],[],0,24,false⟩),
  (29,⟨false,[.l 33],[],0,24,false⟩),
  (30,⟨false,[.l 9],[],0,24,false⟩),
  (31,⟨false,[.l 91],[],0,24,false⟩),
  (32,⟨true,[.i .i64,.i .i64,.i .i64,.s,.l 33,.l 9,.l 91],[(0,1),(1,1),(2,1),(3,1),(4,1),(5,1),(6,1)],0,112,false⟩),
  (33,⟨true,[.i .i64,.i .i64,.i .i64,.s,.l 33,.l 9,.l 91],[(0,1),(1,1),(2,1),(3,1),(4,1),(5,1),(6,1)],0,112,false⟩),
  (40,⟨false,[.l 153],[],0,24,false⟩),
  (44,⟨false,[.l 3],[],0,24,false⟩),
  (45,⟨true,[.i .i64,.i .i64,.i .i64,.s,.s,.i .i64],[(0,1),(1,1),(2,1),(3,1),(4,1),(5,1)],0,64,false⟩),
  (46,⟨true,[.i .i64,.i .i64,.i .i64,.s,.s,.i .i64],[(0,1),(1,1),(2,1),(3,1),(4,1),(5,1)],0,64,true⟩),
  (47,⟨true,[.i .i64,.i .i64,.i .i64,.i .i64,.i .i64,.s,.s,.i .i64],[(0,1),(1,1),(2,6)],0,80,false⟩),
  (48,⟨true,[.i .i64,.i .i64,.i .i64,.i .i64,.i .i64,.s,.s,.i .i64],[(0,1),(1,1),(2,6)],0,80,true⟩),
  (49,⟨false,[.l 118],[],0,24,false⟩),
  (50,⟨true,[.i .i64,.i .i64,.i .i64,.l 3,.i .i64,.i .i64,.i .i64,.i .i64,.i .i64,.s,.s,.i .i64,.s,.s,.i .i64,.i .i64,.l 118],[(0,1),(1,1),(2,1),(3,1),(4,8),(12,1),(13,1),(14,1),(15,1),(16,1)],0,200,false⟩),
  (51,⟨true,[.i .i64,.i .i64,.i .i64,.l 3,.i .i64,.i .i64,.i .i64,.i .i64,.i .i64,.s,.s,.i .i64,.s,.s,.i .i64,.i .i64,.l 118],[(0,1),(1,1),(2,1),(3,1),(4,8),(12,1),(13,1),(14,1),(15,1),(16,1)],0,200,false⟩),
  (59,⟨false,[.l 51],[],0,24,false⟩),
  (77,⟨true,[.i .i64,.l 51],[(0,1),(1,1)],0,32,false⟩),
  (78,⟨true,[.i .i64,.l 51],[(0,1),(1,1)],0,32,false⟩),
  (90,⟨true,[.l 3,.l 153],[(0,1),(1,1)],0,48,false⟩),
  (91,⟨true,[.l 3,.l 153],[(0,1),(1,1)],0,48,false⟩),
  (95,⟨true,[.s,.i .i64,.b],[(0,1),(1,1),(2,1)],0,32,false⟩),
  (96,⟨true,[.s,.i .i64,.b],[(0,1),(1,1),(2,1)],0,32,true⟩),
  (113,⟨true,[.l 9,.i .i64],[(0,1),(1,1)],0,32,false⟩),
  (114,⟨true,[.l 9,.i .i64],[(0,1),(1,1)],0,32,false⟩),
  (117,⟨true,[.i .i64,.i .i64,.i .i64,.s,.i .i64,.i .i64,.i .i64,.s,.l 33,.l 9,.l 91],[(0,1),(1,1),(2,1),(3,1),(4,7)],0,152,false⟩),
  (118,⟨true,[.i .i64,.i .i64,.i .i64,.s,.i .i64,.i .i64,.i .i64,.s,.l 33,.l 9,.l 91],[(0,1),(1,1),(2,1),(3,1),(4,7)],0,152,false⟩),
  (120,⟨true,[.l 9,.b],[(0,1),(1,1)],0,32,false⟩),
  (121,⟨true,[.l 9,.b],[(0,1),(1,1)],0,32,false⟩),
  (136,⟨true,[.l 9,.b],[(0,1),(1,1)],0,32,false⟩),
  (137,⟨true,[.l 9,.b],[(0,1),(1,1)],0,32,false⟩),
  (152,⟨true,[.i .i64,.i .i64],[(0,1),(1,1)],0,16,false⟩),
  (153,⟨true,[.i .i64,.i .i64],[(0,1),(1,1)],0,16,true⟩),
  (154,⟨true,[.l 5,.i .i64,.i .i64],[(0,1),(1,1),(2,1)],0,40,false⟩),
  (155,⟨true,[.l 5,.i .i64,.i .i64],[(0,1),(1,1),(2,1)],0,40,false⟩),
  (183,⟨false,[.i .u32],[],0,4,false⟩),
  (184,⟨false,[.i .u64],[],0,8,false⟩),
  (189,⟨false,[.l 78],[],0,24,false⟩),
  (223,⟨false,[.i .u64],[],0,8,false⟩),
  (242,⟨false,[.l 244],[],0,24,false⟩),
  (243,⟨true,[.i .i64,.i .i64,.s,.l 244],[(0,1),(1,1),(2,1),(3,1)],0,56,false⟩),
  (244,⟨true,[.i .i64,.i .i64,.s,.l 244],[(0,1),(1,1),(2,1),(3,1)],0,56,false⟩),
  (256,⟨false,[.i .u64],[],0,8,false⟩),
  (265,⟨false,[.i .i64],[],0,8,false⟩),
  (271,⟨false,[.i .u8],[],0,1,false⟩),
  (299,⟨true,[.i .u8,.i .u8],[(0,1),(1,1)],0,2,false⟩),
  (300,⟨true,[.i .u8,.i .u8],[(0,1),(1,1)],0,2,false⟩),
  (304,⟨true,[.s],[(0,1)],0,16,false⟩),
  (305,⟨true,[.s],[(0,1)],0,16,false⟩),
  (315,⟨false,[.i .u8],[],0,1,false⟩),
  (316,⟨false,[.i .u8],[],0,1,false⟩),
  (318,⟨false,[.i .i32],[],0,4,false⟩),
  (319,⟨false,[.i .i32],[],0,4,false⟩),
  (322,⟨true,[.s,.i .u8],[(0,1),(1,1)],0,24,false⟩),
  (323,⟨true,[.s,.i .u8],[(0,1),(1,1)],0,24,false⟩)]
abbrev T:Tab:=tabOf tab [(0,[(.l 9,.l [[.s ⟨#[109,105,115,115,105,110,103]⟩],[.s ⟨#[100,117,112,108,105,99,97,116,101]⟩],[.s ⟨#[99,121,99,108,101]⟩],[.s ⟨#[116,121,112,101]⟩],[.s ⟨#[114,97,110,103,101]⟩],[.s ⟨#[108,105,109,105,116]⟩],[.s ⟨#[99,111,108,117,109,110]⟩],[.s ⟨#[115,121,110,116,97,120]⟩]])]),(3,[(.i .u64,.i 1),(.i .u64,.i 10),(.i .u64,.i 100),(.i .u64,.i 1000),(.i .u64,.i 10000),(.i .u64,.i 100000),(.i .u64,.i 1000000),(.i .u64,.i 10000000),(.i .u64,.i 100000000),(.i .u64,.i 1000000000),(.i .u64,.i 10000000000),(.i .u64,.i 100000000000),(.i .u64,.i 1000000000000),(.i .u64,.i 10000000000000),(.i .u64,.i 100000000000000),(.i .u64,.i 1000000000000000),(.i .u64,.i 10000000000000000),(.i .u64,.i 100000000000000000),(.i .u64,.i 1000000000000000000),(.i .u64,.i 10000000000000000000)])] [(1,false),(4,true),(5,true)]
theorem ty_2:TyOk Tryz.prog T 2 ⟨false,[.i .i64],[],0,8,false⟩:=TyOk.mkOne (c:=.i .i64) Tryz.underlying2 rfl (by kernel_rfl) rfl rfl (by kernel_rfl)
theorem ty_3:TyOk Tryz.prog T 3 ⟨false,[.i .i64],[],0,8,false⟩:=TyOk.mkOne (c:=.i .i64) Tryz.underlying3 rfl (by kernel_rfl) rfl rfl (by kernel_rfl)
theorem ty_4:TyOk Tryz.prog T 4 ⟨false,[.b],[],0,1,false⟩:=TyOk.mkOne (c:=.b) Tryz.underlying4 rfl (by kernel_rfl) rfl rfl (by kernel_rfl)
theorem ty_5:TyOk Tryz.prog T 5 ⟨false,[.i .u8],[],0,1,false⟩:=TyOk.mkOne (c:=.i .u8) Tryz.underlying5 rfl (by kernel_rfl) rfl rfl (by kernel_rfl)
theorem ty_6:TyOk Tryz.prog T 6 ⟨false,[.i .u8],[],0,1,false⟩:=TyOk.mkOne (c:=.i .u8) Tryz.underlying6 rfl (by kernel_rfl) rfl rfl (by kernel_rfl)
theorem ty_7:TyOk Tryz.prog T 7 ⟨true,[.i .i64,.i .i64,.b,.i .u8],[(0,1),(1,1),(2,1),(3,1)],0,24,false⟩:=TyOk.mkAgg (by kernel_rfl) rfl (by kernel_rfl) (show Tryz.prog.underlying 7=some (.struct _) from Tryz.underlying7) (by kernel_rfl) (by kernel_rfl) (fun h=>by cases h)
theorem ty_8:TyOk Tryz.prog T 8 ⟨true,[.i .i64,.i .i64,.b,.i .u8],[(0,1),(1,1),(2,1),(3,1)],0,24,false⟩:=TyOk.mkAgg (by kernel_rfl) rfl (by kernel_rfl) (show Tryz.prog.underlying 8=some (.struct _) from Tryz.underlying8) (by kernel_rfl) (by kernel_rfl) (fun h=>by cases h)
theorem ty_9:TyOk Tryz.prog T 9 ⟨false,[.s],[],0,16,false⟩:=TyOk.mkOne (c:=.s) Tryz.underlying9 rfl (by kernel_rfl) rfl rfl (by kernel_rfl)
theorem ty_10:TyOk Tryz.prog T 10 ⟨false,[.s],[],0,16,false⟩:=TyOk.mkOne (c:=.s) Tryz.underlying10 rfl (by kernel_rfl) rfl rfl (by kernel_rfl)
theorem ty_11:TyOk Tryz.prog T 11 ⟨false,[.s],[],0,16,false⟩:=TyOk.mkOne (c:=.s) Tryz.underlying11 rfl (by kernel_rfl) rfl rfl (by kernel_rfl)
theorem ty_12:TyOk Tryz.prog T 12 ⟨false,[.i .u64],[],0,8,false⟩:=TyOk.mkOne (c:=.i .u64) Tryz.underlying12 rfl (by kernel_rfl) rfl rfl (by kernel_rfl)
theorem ty_13:TyOk Tryz.prog T 13 ⟨true,[.s,.i .u64],[(0,1),(1,1)],0,24,false⟩:=TyOk.mkAgg (by kernel_rfl) rfl (by kernel_rfl) (show Tryz.prog.underlying 13=some (.struct _) from Tryz.underlying13) (by kernel_rfl) (by kernel_rfl) (fun h=>by cases h)
theorem ty_14:TyOk Tryz.prog T 14 ⟨true,[.s,.i .u64],[(0,1),(1,1)],0,24,false⟩:=TyOk.mkAgg (by kernel_rfl) rfl (by kernel_rfl) (show Tryz.prog.underlying 14=some (.struct _) from Tryz.underlying14) (by kernel_rfl) (by kernel_rfl) (fun h=>by cases h)
theorem ty_21:TyOk Tryz.prog T 21 ⟨false,[.i .i32],[],0,4,false⟩:=TyOk.mkOne (c:=.i .i32) Tryz.underlying21 rfl (by kernel_rfl) rfl rfl (by kernel_rfl)
theorem ty_22:TyOk Tryz.prog T 22 ⟨true,[.s,.i .i64],[(0,1),(1,1)],0,24,false⟩:=TyOk.mkAgg (by kernel_rfl) rfl (by kernel_rfl) (show Tryz.prog.underlying 22=some (.struct _) from Tryz.underlying22) (by kernel_rfl) (by kernel_rfl) (fun h=>by cases h)
theorem eq_23:EqFact Tryz.prog 23 [.s,.i .i64]:=by
  refine ⟨by kernel_rfl,fun w a b ha hb=>?_⟩
  match a,ha,b,hb with
  | [.s x0,.i x1],_,[.s y0,.i y1],_ =>
    have u3:=Tryz.underlying3
    have a3:=Tryz.isAgg3
    have z3:=Tryz.sizeOf3
    have u9:=Tryz.underlying9
    have a9:=Tryz.isAgg9
    have z9:=Tryz.sizeOf9
    have hS:Tryz.prog.underlying 23=some (.struct (Tryz.prog.fieldsOf 23)):=by kernel_rfl
    have hp:Tryz.prog.stoodInHeld 23=false:=by kernel_rfl
    simp only [valsOf,valOf]
    rw [show (10000:Nat)=9999+1 from rfl,run_equalIn_agg w 9999 23 _ _ hS hp]
    simp only [Program.fieldsOf,Tryz.underlying23,eqDs,eqD]
    go_simp
    by_cases h0:x0.toList=y0.toList
    ·
      by_cases h1:x1=y1
      · simp [h0,h1]
      · simp [h0,h1]
    · simp [h0]
theorem ty_23:TyOk Tryz.prog T 23 ⟨true,[.s,.i .i64],[(0,1),(1,1)],0,24,true⟩:=TyOk.mkAgg (by kernel_rfl) rfl (by kernel_rfl) (show Tryz.prog.underlying 23=some (.struct _) from Tryz.underlying23) (by kernel_rfl) (by kernel_rfl) (fun _=>eq_23)
theorem ty_27:TyOk Tryz.prog T 27 ⟨false,[.l 5],[],0,24,false⟩:=TyOk.mkOne (c:=.l 5) Tryz.underlying27 rfl (by kernel_rfl) rfl rfl (by kernel_rfl)
theorem ty_29:TyOk Tryz.prog T 29 ⟨false,[.l 33],[],0,24,false⟩:=TyOk.mkOne (c:=.l 33) Tryz.underlying29 rfl (by kernel_rfl) rfl rfl (by kernel_rfl)
theorem ty_30:TyOk Tryz.prog T 30 ⟨false,[.l 9],[],0,24,false⟩:=TyOk.mkOne (c:=.l 9) Tryz.underlying30 rfl (by kernel_rfl) rfl rfl (by kernel_rfl)
theorem ty_31:TyOk Tryz.prog T 31 ⟨false,[.l 91],[],0,24,false⟩:=TyOk.mkOne (c:=.l 91) Tryz.underlying31 rfl (by kernel_rfl) rfl rfl (by kernel_rfl)
theorem ty_32:TyOk Tryz.prog T 32 ⟨true,[.i .i64,.i .i64,.i .i64,.s,.l 33,.l 9,.l 91],[(0,1),(1,1),(2,1),(3,1),(4,1),(5,1),(6,1)],0,112,false⟩:=TyOk.mkAgg (by kernel_rfl) rfl (by kernel_rfl) (show Tryz.prog.underlying 32=some (.struct _) from Tryz.underlying32) (by kernel_rfl) (by kernel_rfl) (fun h=>by cases h)
theorem ty_33:TyOk Tryz.prog T 33 ⟨true,[.i .i64,.i .i64,.i .i64,.s,.l 33,.l 9,.l 91],[(0,1),(1,1),(2,1),(3,1),(4,1),(5,1),(6,1)],0,112,false⟩:=TyOk.mkAgg (by kernel_rfl) rfl (by kernel_rfl) (show Tryz.prog.underlying 33=some (.struct _) from Tryz.underlying33) (by kernel_rfl) (by kernel_rfl) (fun h=>by cases h)
theorem ty_40:TyOk Tryz.prog T 40 ⟨false,[.l 153],[],0,24,false⟩:=TyOk.mkOne (c:=.l 153) Tryz.underlying40 rfl (by kernel_rfl) rfl rfl (by kernel_rfl)
theorem ty_44:TyOk Tryz.prog T 44 ⟨false,[.l 3],[],0,24,false⟩:=TyOk.mkOne (c:=.l 3) Tryz.underlying44 rfl (by kernel_rfl) rfl rfl (by kernel_rfl)
theorem ty_45:TyOk Tryz.prog T 45 ⟨true,[.i .i64,.i .i64,.i .i64,.s,.s,.i .i64],[(0,1),(1,1),(2,1),(3,1),(4,1),(5,1)],0,64,false⟩:=TyOk.mkAgg (by kernel_rfl) rfl (by kernel_rfl) (show Tryz.prog.underlying 45=some (.struct _) from Tryz.underlying45) (by kernel_rfl) (by kernel_rfl) (fun h=>by cases h)
theorem eq_46:EqFact Tryz.prog 46 [.i .i64,.i .i64,.i .i64,.s,.s,.i .i64]:=by
  refine ⟨by kernel_rfl,fun w a b ha hb=>?_⟩
  match a,ha,b,hb with
  | [.i x0, .i x1,.i x2,.s x3,.s x4,.i x5],_,[.i y0,.i y1,.i y2,.s y3,.s y4,.i y5],_ =>
    have u3:=Tryz.underlying3
    have a3:=Tryz.isAgg3
    have z3:=Tryz.sizeOf3
    have u9:=Tryz.underlying9
    have a9:=Tryz.isAgg9
    have z9:=Tryz.sizeOf9
    have hS:Tryz.prog.underlying 46=some (.struct (Tryz.prog.fieldsOf 46)):=by kernel_rfl
    have hp:Tryz.prog.stoodInHeld 46=false:=by kernel_rfl
    simp only [valsOf,valOf]
    rw [show (10000:Nat)=9999+1 from rfl,run_equalIn_agg w 9999 46 _ _ hS hp]
    simp only [Program.fieldsOf,Tryz.underlying46,eqDs,eqD]
    go_simp
    by_cases h0:x0=y0
    ·
      by_cases h1:x1=y1
      ·
        by_cases h2:x2=y2
        ·
          by_cases h3:x3.toList=y3.toList
          ·
            by_cases h4:x4.toList=y4.toList
            ·
              by_cases h5:x5=y5
              · simp [h0,h1,h2,h3,h4,h5]
              · simp [h0,h1,h2,h3,h4,h5]
            · simp [h0,h1,h2,h3,h4]
          · simp [h0,h1,h2,h3]
        · simp [h0,h1,h2]
      · simp [h0,h1]
    · simp [h0]
theorem ty_46:TyOk Tryz.prog T 46 ⟨true,[.i .i64,.i .i64,.i .i64,.s,.s,.i .i64],[(0,1),(1,1),(2,1),(3,1),(4,1),(5,1)],0,64,true⟩:=TyOk.mkAgg (by kernel_rfl) rfl (by kernel_rfl) (show Tryz.prog.underlying 46=some (.struct _) from Tryz.underlying46) (by kernel_rfl) (by kernel_rfl) (fun _=>eq_46)
theorem ty_47:TyOk Tryz.prog T 47 ⟨true,[.i .i64,.i .i64,.i .i64,.i .i64,.i .i64,.s,.s,.i .i64],[(0,1),(1,1),(2,6)],0,80,false⟩:=TyOk.mkAgg (by kernel_rfl) rfl (by kernel_rfl) (show Tryz.prog.underlying 47=some (.struct _) from Tryz.underlying47) (by kernel_rfl) (by kernel_rfl) (fun h=>by cases h)
theorem eq_48:EqFact Tryz.prog 48 [.i .i64,.i .i64,.i .i64,.i .i64,.i .i64,.s,.s,.i .i64]:=by
  refine ⟨by kernel_rfl,fun w a b ha hb=>?_⟩
  match a,ha,b,hb with
  | [.i x0, .i x1, .i x2,.i x3,.i x4,.s x5,.s x6,.i x7],_,[.i y0,.i y1,.i y2,.i y3,.i y4,.s y5,.s y6,.i y7],_ =>
    have u3:=Tryz.underlying3
    have a3:=Tryz.isAgg3
    have z3:=Tryz.sizeOf3
    have u9:=Tryz.underlying9
    have a9:=Tryz.isAgg9
    have z9:=Tryz.sizeOf9
    have u46:=Tryz.underlying46
    have a46:=Tryz.isAgg46
    have z46:=Tryz.sizeOf46
    have hS:Tryz.prog.underlying 48=some (.struct (Tryz.prog.fieldsOf 48)):=by kernel_rfl
    have hp:Tryz.prog.stoodInHeld 48=false:=by kernel_rfl
    have hS46:Tryz.prog.underlying 46=some (.struct (Tryz.prog.fieldsOf 46)):=by kernel_rfl
    have hp46:Tryz.prog.stoodInHeld 46=false:=by kernel_rfl
    simp only [valsOf,valOf]
    rw [show (10000:Nat)=9999+1 from rfl,run_equalIn_agg w 9999 48 _ _ hS hp]
    simp only [Program.fieldsOf,Tryz.underlying48,eqDs,eqD]
    go_simp
    by_cases h0:x0=y0
    ·
      by_cases h1:x1=y1
      ·
        by_cases h2:x2=y2
        ·
          by_cases h3:x3=y3
          ·
            by_cases h4:x4=y4
            ·
              by_cases h5:x5.toList=y5.toList
              ·
                by_cases h6:x6.toList=y6.toList
                ·
                  by_cases h7:x7=y7
                  · simp [h0,h1,h2,h3,h4,h5,h6,h7]
                  · simp [h0,h1,h2,h3,h4,h5,h6,h7]
                · simp [h0,h1,h2,h3,h4,h5,h6]
              · simp [h0,h1,h2,h3,h4,h5]
            · simp [h0,h1,h2,h3,h4]
          · simp [h0,h1,h2,h3]
        · simp [h0,h1,h2]
      · simp [h0,h1]
    · simp [h0]
theorem ty_48:TyOk Tryz.prog T 48 ⟨true,[.i .i64,.i .i64,.i .i64,.i .i64,.i .i64,.s,.s,.i .i64],[(0,1),(1,1),(2,6)],0,80,true⟩:=TyOk.mkAgg (by kernel_rfl) rfl (by kernel_rfl) (show Tryz.prog.underlying 48=some (.struct _) from Tryz.underlying48) (by kernel_rfl) (by kernel_rfl) (fun _=>eq_48)
theorem ty_49:TyOk Tryz.prog T 49 ⟨false,[.l 118],[],0,24,false⟩:=TyOk.mkOne (c:=.l 118) Tryz.underlying49 rfl (by kernel_rfl) rfl rfl (by kernel_rfl)
theorem ty_50:TyOk Tryz.prog T 50 ⟨true,[.i .i64,.i .i64,.i .i64,.l 3,.i .i64,.i .i64,.i .i64,.i .i64,.i .i64,.s,.s,.i .i64,.s,.s,.i .i64,.i .i64,.l 118],[(0,1),(1,1),(2,1),(3,1),(4,8),(12,1),(13,1),(14,1),(15,1),(16,1)],0,200,false⟩:=TyOk.mkAgg (by kernel_rfl) rfl (by kernel_rfl) (show Tryz.prog.underlying 50=some (.struct _) from Tryz.underlying50) (by kernel_rfl) (by kernel_rfl) (fun h=>by cases h)
theorem ty_51:TyOk Tryz.prog T 51 ⟨true,[.i .i64,.i .i64,.i .i64,.l 3,.i .i64,.i .i64,.i .i64,.i .i64,.i .i64,.s,.s,.i .i64,.s,.s,.i .i64,.i .i64,.l 118],[(0,1),(1,1),(2,1),(3,1),(4,8),(12,1),(13,1),(14,1),(15,1),(16,1)],0,200,false⟩:=TyOk.mkAgg (by kernel_rfl) rfl (by kernel_rfl) (show Tryz.prog.underlying 51=some (.struct _) from Tryz.underlying51) (by kernel_rfl) (by kernel_rfl) (fun h=>by cases h)
theorem ty_59:TyOk Tryz.prog T 59 ⟨false,[.l 51],[],0,24,false⟩:=TyOk.mkOne (c:=.l 51) Tryz.underlying59 rfl (by kernel_rfl) rfl rfl (by kernel_rfl)
theorem ty_77:TyOk Tryz.prog T 77 ⟨true,[.i .i64,.l 51],[(0,1),(1,1)],0,32,false⟩:=TyOk.mkAgg (by kernel_rfl) rfl (by kernel_rfl) (show Tryz.prog.underlying 77=some (.struct _) from Tryz.underlying77) (by kernel_rfl) (by kernel_rfl) (fun h=>by cases h)
theorem ty_78:TyOk Tryz.prog T 78 ⟨true,[.i .i64,.l 51],[(0,1),(1,1)],0,32,false⟩:=TyOk.mkAgg (by kernel_rfl) rfl (by kernel_rfl) (show Tryz.prog.underlying 78=some (.struct _) from Tryz.underlying78) (by kernel_rfl) (by kernel_rfl) (fun h=>by cases h)
theorem ty_90:TyOk Tryz.prog T 90 ⟨true,[.l 3,.l 153],[(0,1),(1,1)],0,48,false⟩:=TyOk.mkAgg (by kernel_rfl) rfl (by kernel_rfl) (show Tryz.prog.underlying 90=some (.struct _) from Tryz.underlying90) (by kernel_rfl) (by kernel_rfl) (fun h=>by cases h)
theorem ty_91:TyOk Tryz.prog T 91 ⟨true,[.l 3,.l 153],[(0,1),(1,1)],0,48,false⟩:=TyOk.mkAgg (by kernel_rfl) rfl (by kernel_rfl) (show Tryz.prog.underlying 91=some (.struct _) from Tryz.underlying91) (by kernel_rfl) (by kernel_rfl) (fun h=>by cases h)
theorem ty_95:TyOk Tryz.prog T 95 ⟨true,[.s,.i .i64,.b],[(0,1),(1,1),(2,1)],0,32,false⟩:=TyOk.mkAgg (by kernel_rfl) rfl (by kernel_rfl) (show Tryz.prog.underlying 95=some (.struct _) from Tryz.underlying95) (by kernel_rfl) (by kernel_rfl) (fun h=>by cases h)
theorem eq_96:EqFact Tryz.prog 96 [.s,.i .i64,.b]:=by
  refine ⟨by kernel_rfl,fun w a b ha hb=>?_⟩
  match a,ha,b,hb with
  | [.s x0,.i x1,.b x2],_,[.s y0,.i y1,.b y2],_ =>
    have u3:=Tryz.underlying3
    have a3:=Tryz.isAgg3
    have z3:=Tryz.sizeOf3
    have u4:=Tryz.underlying4
    have a4:=Tryz.isAgg4
    have z4:=Tryz.sizeOf4
    have u9:=Tryz.underlying9
    have a9:=Tryz.isAgg9
    have z9:=Tryz.sizeOf9
    have hS:Tryz.prog.underlying 96=some (.struct (Tryz.prog.fieldsOf 96)):=by kernel_rfl
    have hp:Tryz.prog.stoodInHeld 96=false:=by kernel_rfl
    simp only [valsOf,valOf]
    rw [show (10000:Nat)=9999+1 from rfl,run_equalIn_agg w 9999 96 _ _ hS hp]
    simp only [Program.fieldsOf,Tryz.underlying96,eqDs,eqD]
    go_simp
    by_cases h0:x0.toList=y0.toList
    ·
      by_cases h1:x1=y1
      ·
        by_cases h2:x2=y2
        · simp [h0,h1,h2]
        · simp [h0,h1,h2]
      · simp [h0,h1]
    · simp [h0]
theorem ty_96:TyOk Tryz.prog T 96 ⟨true,[.s,.i .i64,.b],[(0,1),(1,1),(2,1)],0,32,true⟩:=TyOk.mkAgg (by kernel_rfl) rfl (by kernel_rfl) (show Tryz.prog.underlying 96=some (.struct _) from Tryz.underlying96) (by kernel_rfl) (by kernel_rfl) (fun _=>eq_96)
theorem ty_113:TyOk Tryz.prog T 113 ⟨true,[.l 9,.i .i64],[(0,1),(1,1)],0,32,false⟩:=TyOk.mkAgg (by kernel_rfl) rfl (by kernel_rfl) (show Tryz.prog.underlying 113=some (.struct _) from Tryz.underlying113) (by kernel_rfl) (by kernel_rfl) (fun h=>by cases h)
theorem ty_114:TyOk Tryz.prog T 114 ⟨true,[.l 9,.i .i64],[(0,1),(1,1)],0,32,false⟩:=TyOk.mkAgg (by kernel_rfl) rfl (by kernel_rfl) (show Tryz.prog.underlying 114=some (.struct _) from Tryz.underlying114) (by kernel_rfl) (by kernel_rfl) (fun h=>by cases h)
theorem ty_117:TyOk Tryz.prog T 117 ⟨true,[.i .i64,.i .i64,.i .i64,.s,.i .i64,.i .i64,.i .i64,.s,.l 33,.l 9,.l 91],[(0,1),(1,1),(2,1),(3,1),(4,7)],0,152,false⟩:=TyOk.mkAgg (by kernel_rfl) rfl (by kernel_rfl) (show Tryz.prog.underlying 117=some (.struct _) from Tryz.underlying117) (by kernel_rfl) (by kernel_rfl) (fun h=>by cases h)
theorem ty_118:TyOk Tryz.prog T 118 ⟨true,[.i .i64,.i .i64,.i .i64,.s,.i .i64,.i .i64,.i .i64,.s,.l 33,.l 9,.l 91],[(0,1),(1,1),(2,1),(3,1),(4,7)],0,152,false⟩:=TyOk.mkAgg (by kernel_rfl) rfl (by kernel_rfl) (show Tryz.prog.underlying 118=some (.struct _) from Tryz.underlying118) (by kernel_rfl) (by kernel_rfl) (fun h=>by cases h)
theorem ty_120:TyOk Tryz.prog T 120 ⟨true,[.l 9,.b],[(0,1),(1,1)],0,32,false⟩:=TyOk.mkAgg (by kernel_rfl) rfl (by kernel_rfl) (show Tryz.prog.underlying 120=some (.struct _) from Tryz.underlying120) (by kernel_rfl) (by kernel_rfl) (fun h=>by cases h)
theorem ty_121:TyOk Tryz.prog T 121 ⟨true,[.l 9,.b],[(0,1),(1,1)],0,32,false⟩:=TyOk.mkAgg (by kernel_rfl) rfl (by kernel_rfl) (show Tryz.prog.underlying 121=some (.struct _) from Tryz.underlying121) (by kernel_rfl) (by kernel_rfl) (fun h=>by cases h)
theorem ty_136:TyOk Tryz.prog T 136 ⟨true,[.l 9,.b],[(0,1),(1,1)],0,32,false⟩:=TyOk.mkAgg (by kernel_rfl) rfl (by kernel_rfl) (show Tryz.prog.underlying 136=some (.struct _) from Tryz.underlying136) (by kernel_rfl) (by kernel_rfl) (fun h=>by cases h)
theorem ty_137:TyOk Tryz.prog T 137 ⟨true,[.l 9,.b],[(0,1),(1,1)],0,32,false⟩:=TyOk.mkAgg (by kernel_rfl) rfl (by kernel_rfl) (show Tryz.prog.underlying 137=some (.struct _) from Tryz.underlying137) (by kernel_rfl) (by kernel_rfl) (fun h=>by cases h)
theorem ty_152:TyOk Tryz.prog T 152 ⟨true,[.i .i64,.i .i64],[(0,1),(1,1)],0,16,false⟩:=TyOk.mkAgg (by kernel_rfl) rfl (by kernel_rfl) (show Tryz.prog.underlying 152=some (.struct _) from Tryz.underlying152) (by kernel_rfl) (by kernel_rfl) (fun h=>by cases h)
theorem eq_153:EqFact Tryz.prog 153 [.i .i64,.i .i64]:=by
  refine ⟨by kernel_rfl,fun w a b ha hb=>?_⟩
  match a,ha,b,hb with
  | [.i x0,.i x1],_,[.i y0,.i y1],_ =>
    have u3:=Tryz.underlying3
    have a3:=Tryz.isAgg3
    have z3:=Tryz.sizeOf3
    have hS:Tryz.prog.underlying 153=some (.struct (Tryz.prog.fieldsOf 153)):=by kernel_rfl
    have hp:Tryz.prog.stoodInHeld 153=false:=by kernel_rfl
    simp only [valsOf,valOf]
    rw [show (10000:Nat)=9999+1 from rfl,run_equalIn_agg w 9999 153 _ _ hS hp]
    simp only [Program.fieldsOf,Tryz.underlying153,eqDs,eqD]
    go_simp
    by_cases h0:x0=y0
    ·
      by_cases h1:x1=y1
      · simp [h0,h1]
      · simp [h0,h1]
    · simp [h0]
theorem ty_153:TyOk Tryz.prog T 153 ⟨true,[.i .i64,.i .i64],[(0,1),(1,1)],0,16,true⟩:=TyOk.mkAgg (by kernel_rfl) rfl (by kernel_rfl) (show Tryz.prog.underlying 153=some (.struct _) from Tryz.underlying153) (by kernel_rfl) (by kernel_rfl) (fun _=>eq_153)
theorem ty_154:TyOk Tryz.prog T 154 ⟨true,[.l 5,.i .i64,.i .i64],[(0,1),(1,1),(2,1)],0,40,false⟩:=TyOk.mkAgg (by kernel_rfl) rfl (by kernel_rfl) (show Tryz.prog.underlying 154=some (.struct _) from Tryz.underlying154) (by kernel_rfl) (by kernel_rfl) (fun h=>by cases h)
theorem ty_155:TyOk Tryz.prog T 155 ⟨true,[.l 5,.i .i64,.i .i64],[(0,1),(1,1),(2,1)],0,40,false⟩:=TyOk.mkAgg (by kernel_rfl) rfl (by kernel_rfl) (show Tryz.prog.underlying 155=some (.struct _) from Tryz.underlying155) (by kernel_rfl) (by kernel_rfl) (fun h=>by cases h)
theorem ty_183:TyOk Tryz.prog T 183 ⟨false,[.i .u32],[],0,4,false⟩:=TyOk.mkOne (c:=.i .u32) Tryz.underlying183 rfl (by kernel_rfl) rfl rfl (by kernel_rfl)
theorem ty_184:TyOk Tryz.prog T 184 ⟨false,[.i .u64],[],0,8,false⟩:=TyOk.mkOne (c:=.i .u64) Tryz.underlying184 rfl (by kernel_rfl) rfl rfl (by kernel_rfl)
theorem ty_189:TyOk Tryz.prog T 189 ⟨false,[.l 78],[],0,24,false⟩:=TyOk.mkOne (c:=.l 78) Tryz.underlying189 rfl (by kernel_rfl) rfl rfl (by kernel_rfl)
theorem ty_223:TyOk Tryz.prog T 223 ⟨false,[.i .u64],[],0,8,false⟩:=TyOk.mkOne (c:=.i .u64) Tryz.underlying223 rfl (by kernel_rfl) rfl rfl (by kernel_rfl)
theorem ty_242:TyOk Tryz.prog T 242 ⟨false,[.l 244],[],0,24,false⟩:=TyOk.mkOne (c:=.l 244) Tryz.underlying242 rfl (by kernel_rfl) rfl rfl (by kernel_rfl)
theorem ty_243:TyOk Tryz.prog T 243 ⟨true,[.i .i64,.i .i64,.s,.l 244],[(0,1),(1,1),(2,1),(3,1)],0,56,false⟩:=TyOk.mkAgg (by kernel_rfl) rfl (by kernel_rfl) (show Tryz.prog.underlying 243=some (.struct _) from Tryz.underlying243) (by kernel_rfl) (by kernel_rfl) (fun h=>by cases h)
theorem ty_244:TyOk Tryz.prog T 244 ⟨true,[.i .i64,.i .i64,.s,.l 244],[(0,1),(1,1),(2,1),(3,1)],0,56,false⟩:=TyOk.mkAgg (by kernel_rfl) rfl (by kernel_rfl) (show Tryz.prog.underlying 244=some (.struct _) from Tryz.underlying244) (by kernel_rfl) (by kernel_rfl) (fun h=>by cases h)
theorem ty_256:TyOk Tryz.prog T 256 ⟨false,[.i .u64],[],0,8,false⟩:=TyOk.mkOne (c:=.i .u64) Tryz.underlying256 rfl (by kernel_rfl) rfl rfl (by kernel_rfl)
theorem ty_265:TyOk Tryz.prog T 265 ⟨false,[.i .i64],[],0,8,false⟩:=TyOk.mkOne (c:=.i .i64) Tryz.underlying265 rfl (by kernel_rfl) rfl rfl (by kernel_rfl)
theorem ty_271:TyOk Tryz.prog T 271 ⟨false,[.i .u8],[],0,1,false⟩:=TyOk.mkOne (c:=.i .u8) Tryz.underlying271 rfl (by kernel_rfl) rfl rfl (by kernel_rfl)
theorem ty_299:TyOk Tryz.prog T 299 ⟨true,[.i .u8,.i .u8],[(0,1),(1,1)],0,2,false⟩:=TyOk.mkAgg (by kernel_rfl) rfl (by kernel_rfl) (show Tryz.prog.underlying 299=some (.struct _) from Tryz.underlying299) (by kernel_rfl) (by kernel_rfl) (fun h=>by cases h)
theorem ty_300:TyOk Tryz.prog T 300 ⟨true,[.i .u8,.i .u8],[(0,1),(1,1)],0,2,false⟩:=TyOk.mkAgg (by kernel_rfl) rfl (by kernel_rfl) (show Tryz.prog.underlying 300=some (.struct _) from Tryz.underlying300) (by kernel_rfl) (by kernel_rfl) (fun h=>by cases h)
theorem ty_304:TyOk Tryz.prog T 304 ⟨true,[.s],[(0,1)],0,16,false⟩:=TyOk.mkAgg (by kernel_rfl) rfl (by kernel_rfl) (show Tryz.prog.underlying 304=some (.struct _) from Tryz.underlying304) (by kernel_rfl) (by kernel_rfl) (fun h=>by cases h)
theorem ty_305:TyOk Tryz.prog T 305 ⟨true,[.s],[(0,1)],0,16,false⟩:=TyOk.mkAgg (by kernel_rfl) rfl (by kernel_rfl) (show Tryz.prog.underlying 305=some (.struct _) from Tryz.underlying305) (by kernel_rfl) (by kernel_rfl) (fun h=>by cases h)
theorem ty_315:TyOk Tryz.prog T 315 ⟨false,[.i .u8],[],0,1,false⟩:=TyOk.mkOne (c:=.i .u8) Tryz.underlying315 rfl (by kernel_rfl) rfl rfl (by kernel_rfl)
theorem ty_316:TyOk Tryz.prog T 316 ⟨false,[.i .u8],[],0,1,false⟩:=TyOk.mkOne (c:=.i .u8) Tryz.underlying316 rfl (by kernel_rfl) rfl rfl (by kernel_rfl)
theorem ty_318:TyOk Tryz.prog T 318 ⟨false,[.i .i32],[],0,4,false⟩:=TyOk.mkOne (c:=.i .i32) Tryz.underlying318 rfl (by kernel_rfl) rfl rfl (by kernel_rfl)
theorem ty_319:TyOk Tryz.prog T 319 ⟨false,[.i .i32],[],0,4,false⟩:=TyOk.mkOne (c:=.i .i32) Tryz.underlying319 rfl (by kernel_rfl) rfl rfl (by kernel_rfl)
theorem ty_322:TyOk Tryz.prog T 322 ⟨true,[.s,.i .u8],[(0,1),(1,1)],0,24,false⟩:=TyOk.mkAgg (by kernel_rfl) rfl (by kernel_rfl) (show Tryz.prog.underlying 322=some (.struct _) from Tryz.underlying322) (by kernel_rfl) (by kernel_rfl) (fun h=>by cases h)
theorem ty_323:TyOk Tryz.prog T 323 ⟨true,[.s,.i .u8],[(0,1),(1,1)],0,24,false⟩:=TyOk.mkAgg (by kernel_rfl) rfl (by kernel_rfl) (show Tryz.prog.underlying 323=some (.struct _) from Tryz.underlying323) (by kernel_rfl) (by kernel_rfl) (fun h=>by cases h)
theorem tabT:TabOk Tryz.prog T:=tabOk fun p hp=>by
  simp only [tab,List.mem_cons,List.not_mem_nil,or_false] at hp
  rcases hp with rfl|rfl|rfl|rfl|rfl|rfl|rfl|rfl|rfl|rfl|rfl|rfl|rfl|rfl|rfl|rfl|rfl|rfl|rfl|rfl|rfl|rfl|rfl|rfl|rfl|rfl|rfl|rfl|rfl|rfl|rfl|rfl|rfl|rfl|rfl|rfl|rfl|rfl|rfl|rfl|rfl|rfl|rfl|rfl|rfl|rfl|rfl|rfl|rfl|rfl|rfl|rfl|rfl|rfl|rfl|rfl|rfl|rfl|rfl|rfl|rfl|rfl|rfl|rfl|rfl|rfl|rfl|rfl|rfl|rfl
  · exact ty_2
  · exact ty_3
  · exact ty_4
  · exact ty_5
  · exact ty_6
  · exact ty_7
  · exact ty_8
  · exact ty_9
  · exact ty_10
  · exact ty_11
  · exact ty_12
  · exact ty_13
  · exact ty_14
  · exact ty_21
  · exact ty_22
  · exact ty_23
  · exact ty_27
  · exact ty_29
  · exact ty_30
  · exact ty_31
  · exact ty_32
  · exact ty_33
  · exact ty_40
  · exact ty_44
  · exact ty_45
  · exact ty_46
  · exact ty_47
  · exact ty_48
  · exact ty_49
  · exact ty_50
  · exact ty_51
  · exact ty_59
  · exact ty_77
  · exact ty_78
  · exact ty_90
  · exact ty_91
  · exact ty_95
  · exact ty_96
  · exact ty_113
  · exact ty_114
  · exact ty_117
  · exact ty_118
  · exact ty_120
  · exact ty_121
  · exact ty_136
  · exact ty_137
  · exact ty_152
  · exact ty_153
  · exact ty_154
  · exact ty_155
  · exact ty_183
  · exact ty_184
  · exact ty_189
  · exact ty_223
  · exact ty_242
  · exact ty_243
  · exact ty_244
  · exact ty_256
  · exact ty_265
  · exact ty_271
  · exact ty_299
  · exact ty_300
  · exact ty_304
  · exact ty_305
  · exact ty_315
  · exact ty_316
  · exact ty_318
  · exact ty_319
  · exact ty_322
  · exact ty_323
theorem mixed:Tryz.prog.follows .mixedOrders=true:=by kernel_rfl
end Go.Proofs.YtppgalpldaibhaaGreatDoor.Ab
namespace Go.Proofs.YtppgalpldaibhaaGreatDoor.Ab
open Go.RowKit
set_option linter.unusedVariables false
noncomputable instance:DecidableEq D:=fun a b=>Classical.propDecidable (a=b)
abbrev argS (e:TypeId) (rows:List (List D)):SV:=.val false [.sl false e rows]
def rowC (cts:List CT) (row:List D):List CV:=cts.zipIdx.map fun (ct,j)=>ofD ct (row.getD j default)
abbrev argG (cts:List CT) (row:List D):SV:=.val true (rowC cts row)
def CV.d:CV→D
  | .i _ n=>.i n
  | .b x=>.b x
  | .s x=>.s x
  | .sl _ _ rows=>.l rows
  | _=>.i 0
def csD (cs:List CV):List D:=cs.map CV.d
def WfRow (T:Tab) (cts:List CT) (row:List D):Prop:=row.length=cts.length∧∀ (j:Nat) ct d,cts[j]? = some ct→row[j]? = some d→WfD T ct d
theorem WfD.row {e:TypeId} {te:Ty} {rows:List (List D)} (h:WfD T (.l e) (.l rows)) (he:T e=some te) {k:Nat} (hk:k < rows.length):WfRow T te.cts (rows.getD k []):=by
  have hr:rows[k]? = some (rows.getD k []):=by simp [List.getD_eq_getElem?_getD,List.getElem?_eq_getElem hk]
  cases h with
  | nil=>simp at hk
  | sl _ ty _ h1 h2 h3 h4 =>
    rw [he] at h1
    obtain rfl:=Option.some.inj h1
    exact ⟨h3 k _ hr,fun j ct d a b=>h4 k j ct d _ hr a b⟩
theorem WfD.len {e:TypeId} {rows:List (List D)} (h:WfD T (.l e) (.l rows)):rows.length≤maxLen:=by
  cases h with
  | nil=>exact Nat.zero_le _
  | sl _ ty _ h1 h2 h3 h4=>exact h2
theorem WfD.int' {k:IntKind} {d:D} (h:WfD T (.i k) d):∃ n,d=.i n∧inK k n:=by cases h with|int _ n h=>exact ⟨n,rfl,h⟩
theorem WfD.str' {d:D} (h:WfD T .s d):∃ x,d=.s x∧x.size≤maxLen:=by cases h with|str x h=>exact ⟨x,rfl,h⟩
theorem WfD.sl' {e:TypeId} {d:D} (h:WfD T (.l e) d):∃ rows,d=.l rows∧WfD T (.l e) (.l rows):=by
  cases h with
  | nil=>exact ⟨[],rfl,.nil e⟩
  | sl _ ty rows h1 h2 h3 h4=>exact ⟨rows,rfl,.sl e ty rows h1 h2 h3 h4⟩
theorem WfRow.nil' {row:List D} (h:WfRow T [] row):row=[]:=List.length_eq_zero_iff.1 h.1
theorem WfRow.cons' {ct:CT} {cts:List CT} {row:List D} (h:WfRow T (ct :: cts) row):∃ d r,row=d :: r∧WfD T ct d∧WfRow T cts r:=by
  cases row with
  | nil=>exact absurd h.1 (by simp)
  | cons d r=>exact ⟨d,r,rfl,h.2 0 ct d rfl rfl,by simpa using h.1,fun j ct' d' a b=>h.2 (j+1) ct' d' (by simpa using a) (by simpa using b)⟩
noncomputable def eqS (e:TypeId):FSpec where
  pre args:=∃ a b:List (List D),args=[argS e a,argS e b]
  res args:=match args with
    | [.val false [.sl _ _ a],.val false [.sl _ _ b]]=>.val false [.b (decide (a=b))]
    | _=>.none
noncomputable def eqG (cts:List CT):FSpec where
  pre args:=∃ a b:List D,WfRow T cts a∧WfRow T cts b∧args=[argG cts a,argG cts b]
  res args:=match args with
    | [.val true a,.val true b]=>.val false [.b (decide (csD a=csD b))]
    | _=>.none
theorem ne_len {a b:List (List D)} (h:((a.length:Int) != (b.length:Int))=true):a ≠ b:=by
  intro he;subst he;simp at h
theorem eq_len {a b:List (List D)} (h:((a.length:Int) != (b.length:Int))=false):a.length=b.length:=by
  have h' : (a.length:Int)=(b.length:Int):=by simpa using h
  omega
theorem eq_of_takes {a b:List (List D)} {i:Int} (hl:a.length=b.length) (h0:0≤i) (hi:i≤a.length) (hn:decide (i < (a.length:Int))=false) (h:a.take i.toNat=b.take i.toNat):a=b:=by
  have hn' : ¬ i < (a.length:Int):=by simpa using hn
  have:i.toNat=a.length:=by omega
  rw [this,List.take_length,hl,List.take_length] at h
  exact h
theorem row_at {a:List (List D)} {i:Int} (h0:0≤i) (hi:i < a.length):a[i.toNat]? = some (a.getD i.toNat []):=by
  have:i.toNat < a.length:=by omega
  simp [List.getD_eq_getElem?_getD,List.getElem?_eq_getElem this]
theorem takes_next {a b:List (List D)} {i:Int} (h0:0≤i) (hi:i < a.length) (hl:a.length=b.length) (h:a.take i.toNat=b.take i.toNat) (he:a.getD i.toNat []=b.getD i.toNat []):a.take (i+1).toNat=b.take (i+1).toNat:=by
  have e:(i+1).toNat=i.toNat+1:=by omega
  rw [e,List.take_add_one,List.take_add_one,h,row_at h0 hi,row_at h0 (by omega),he]
theorem wrap_next {i:Int} {n:Nat} (h0:0≤i) (hi:i < n) (hn:n≤maxLen):IntKind.i64.wrap (i+1)=i+1:=by
  simp only [maxLen] at hn
  rw [IntKind.wrap_i64];omega
theorem res_no {P:Prop} [Decidable P] (h:¬ P):[CV.b false]=[CV.b (decide P)]:=by rw [decide_eq_false h]
theorem res_yes {P:Prop} [Decidable P] (h:P):[CV.b true]=[CV.b (decide P)]:=by rw [decide_eq_true h]
theorem res_iff {c:Bool} {P:Prop} [Decidable P] (h:c=true ↔ P):[CV.b c]=[CV.b (decide P)]:=by
  have:c=decide P:=by rw [Bool.eq_iff_iff,decide_eq_true_iff];exact h
  rw [this]
theorem WfRow.rows {cts:List CT} {r:List D} (h:WfRow T cts r) {j:Nat} {e:TypeId} (hj:cts[j]? = some (.l e)):WfD T (.l e) (.l (r.getD j default).rows):=by
  have hl:j < r.length:=by rw [h.1];exact (List.getElem?_eq_some_iff.1 hj).1
  have e1:r[j]? = some (r.getD j default):=by simp [List.getD_eq_getElem?_getD,List.getElem?_eq_getElem hl]
  obtain ⟨rows,h1,h2⟩:=(h.2 j _ _ hj e1).sl'
  rw [h1]
  exact h2
noncomputable def eqFn (cts:List CT) (n:Nat):FSpec where
  pre args:=∃ a b:List D,WfRow T cts a∧WfRow T cts b∧SizeOf.sizeOf a < n∧args=[argG cts a,argG cts b,.val false [.b true]]
  res args:=match args with
    | [.val true a,.val true b,_]=>.val false [.b (decide (csD a=csD b))]
    | _=>.none
noncomputable def eqF (cts:List CT):FSpec where
  pre args:=∃ a b:List D,WfRow T cts a∧WfRow T cts b∧args=[argG cts a,argG cts b,.val false [.b true]]
  res:=(eqFn cts 0).res
def sub (r:List D) (k n:Nat):List D:=(List.range n).map fun j=>r.getD (k+j) default
theorem WfRow.sub {cts:List CT} {r:List D} (h:WfRow T cts r) (k n:Nat) (hk:k+n≤cts.length):WfRow T ((cts.drop k).take n) (sub r k n):=by
  refine ⟨by simp [Ab.sub];omega,fun j ct d h1 h2=>?_⟩
  rw [List.getElem?_take,List.getElem?_drop] at h1
  split at h1
  · rename_i hj
    have e:(Ab.sub r k n)[j]? = some (r.getD (k+j) default):=by simp [Ab.sub,hj]
    rw [e] at h2
    have hl:k+j < r.length:=by rw [h.1];omega
    refine h.2 (k+j) ct d h1 ?_
    rw [← Option.some.inj h2]
    simp [List.getD_eq_getElem?_getD,List.getElem?_eq_getElem hl]
  · cases h1
theorem d_ofD {ct:CT} {d:D} (h:WfD T ct d):(ofD ct d).d=d:=by cases h <;> rfl
theorem csD_rowC {cts:List CT} {r:List D} (h:WfRow T cts r):csD (rowC cts r)=r:=by
  refine List.ext_getElem (by simp [csD,rowC,h.1]) fun j h1 h2=>?_
  have hj:j < cts.length:=by rw [← h.1];exact h2
  have:=d_ofD (h.2 j cts[j] r[j] (List.getElem?_eq_getElem hj) (List.getElem?_eq_getElem h2))
  simp [csD,rowC,List.getD_eq_getElem?_getD,List.getElem?_eq_getElem h2,this]
theorem row_eq {cts:List CT} {r s:List D} (hr:WfRow T cts r) (hs:WfRow T cts s) (h:csD (rowC cts r)=csD (rowC cts s)):r=s:=by rwa [csD_rowC hr,csD_rowC hs] at h
theorem str_inj (x y:ByteArray):(x.toList=y.toList)=(x=y):=by
  refine propext ⟨fun h=>?_,fun h=>by rw [h]⟩
  rw [ByteArray.toList_eq,ByteArray.toList_eq] at h
  exact ByteArray.ext (Array.toList_inj.1 h)
theorem FOk.lift {P:Program} {f:FuncId} {s:Nat→FSpec} {s' : FSpec} (h:∀ n,FOk P T f (s n)) (hs:∀ args,s'.pre args→∃ n,(s n).pre args) (hr:∀ n,(s n).res=s'.res)
    (hb:∀ n,(s n).bx=s'.bx:=by intro n;rfl) (hu:∀ n,(s n).upd=s'.upd:=by intro n;rfl) (hq:∀ n,(s n).nb=s'.nb:=by intro n;rfl):FOk P T f s' := by
  refine ⟨(h 0).1,fun hbx hnb w X b ob cs args vals h1 h2 h3 h4 h5 h6 h7 hgl hpre=>?_,fun hbx w X args vals hX hargs hgl hpre=>?_,fun hbx hnb w X args vals hX hargs hpre=>?_⟩
  · obtain ⟨n,hn⟩:=hs _ hpre
    have:=(h n).okb ((hb n).trans hbx) ((hq n).trans hnb) w X b ob cs args vals h1 h2 h3 h4 h5 h6 h7 hgl hn
    rwa [hr n,hu n] at this
  · obtain ⟨n,hn⟩:=hs args hpre
    have:=(h n).ok ((hb n).trans hbx) w X args vals hX hargs hgl hn
    rwa [hr n] at this
  · obtain ⟨n,hn⟩:=hs args hpre
    have:=(h n).okn ((hb n).trans hbx) ((hq n).trans hnb) w X args vals hX hargs hn
    rwa [hu n] at this
theorem size_cell {r:List D} {j:Nat} (h:j < r.length):SizeOf.sizeOf (r.getD j default).rows < SizeOf.sizeOf r:=by
  have h1:r.getD j default ∈ r:=by simp [List.getD_eq_getElem?_getD,List.getElem?_eq_getElem h]
  have h2:=List.sizeOf_lt_of_mem h1
  have h3:SizeOf.sizeOf (r.getD j default).rows≤SizeOf.sizeOf (r.getD j default):=by
    cases r.getD j default <;> simp [D.rows]
  omega
theorem size_row {a:List (List D)} {k:Nat} (h:k < a.length):SizeOf.sizeOf (a.getD k []) < SizeOf.sizeOf a:=by
  have h1:a.getD k [] ∈ a:=by simp [List.getD_eq_getElem?_getD,List.getElem?_eq_getElem h]
  exact List.sizeOf_lt_of_mem h1
def envL:List (FuncId × FSpec)→FuncId→Option FSpec
  | [],_=>none
  | (g,s) :: l,f=>if f=g then some s else envL l f
theorem envL_nil {P:Program}:EnvOk P T (envL []):=fun f s h=>by cases h
theorem envL_cons {P:Program} {g:FuncId} {s:FSpec} {l:List (FuncId × FSpec)} (h:FOk P T g s) (hl:EnvOk P T (envL l)):EnvOk P T (envL ((g,s) :: l)):=fun f s' hf=>by
  simp only [envL] at hf
  split at hf
  · rename_i e;subst e;obtain rfl:=Option.some.inj hf;exact h
  · exact hl f s' hf
theorem arg0 {ag:Bool} {cs:List CV} {l:List SV} (h:∀ a ∈ SV.val ag cs :: l,WfSV T a) {c:CV} (h2:c ∈ cs):WfC T c:=h _ (List.mem_cons_self ..) c h2
theorem arg1 {x:SV} {ag:Bool} {cs:List CV} {l:List SV} (h:∀ a ∈ x :: SV.val ag cs :: l,WfSV T a) {c:CV} (h2:c ∈ cs):WfC T c:=h _ (List.mem_cons_of_mem _ (List.mem_cons_self ..)) c h2
end Go.Proofs.YtppgalpldaibhaaGreatDoor.Ab
namespace Go.Proofs.YtppgalpldaibhaaGreatDoor.Ab
open Go.RowKit Go.ChangeShapes Go.WideShapes
set_option linter.unusedVariables false
variable {P:Program} {T:Tab} {w:World}
def RowR (T:Tab) (w:World) (X:Nat→Prop) (cts:List CT) (cs:List Value) (row:List D):Prop :=
  cs.length=cts.length∧row.length=cts.length∧∀ (j:Nat) ct v d,cts[j]? = some ct→cs[j]? = some v→row[j]? = some d→RdR T w X ct v d
def flatGo (P:Program) (T:Tab) (S:List TypeId):Nat→List Field→List CT→Bool
  | _,[],cts=>cts.isEmpty
  | off,g :: gs,cts=>match T g.type with
    | some ty=>g.offset == off && S.contains g.type && cts.take ty.cts.length == ty.cts && flatGo P T S (off+ty.cts.length) gs (cts.drop ty.cts.length)
    | none=>false
def flatOk (P:Program) (T:Tab) (S:List TypeId) (t:TypeId):Bool :=
  match T t,P.underlying t with
  | some ty,some .bool=>ty.cts == [.b]
  | some ty,some (.int k)=>ty.cts == [.i k]
  | some ty,some .string=>ty.cts == [.s]
  | some ty,some (.slice e)=>ty.cts == [.l e] && S.contains e && decide (0 < P.cellsOf e)
  | some ty,some (.struct fs)=>flatGo P T S 0 fs.toList ty.cts
  | _,_=>false
theorem list_choose' {α β:Type}:∀ (l:List α) (Q:Nat→α→β→Prop),(∀ k a,l[k]? = some a→∃ b,Q k a b)→∃ xs:List β,xs.length=l.length∧∀ k x,xs[k]? = some x→∃ a,l[k]? = some a∧Q k a x
  | [],_,_=>⟨[],rfl,fun k x h=>by simp at h⟩
  | a :: r,Q,h=>by
    obtain ⟨b,hb⟩:=h 0 a rfl
    obtain ⟨xs,hl,hx⟩:=list_choose' r (fun k=>Q (k+1)) (fun k a' h' => h (k+1) a' (by simpa using h'))
    refine ⟨b :: xs,by simp [hl],fun k x hk=>?_⟩
    cases k with
    | zero =>
      have e:b=x:=by simpa using hk
      subst e
      exact ⟨a,rfl,hb⟩
    | succ k =>
      obtain ⟨a',h1,h2⟩:=hx k x (by simpa using hk)
      exact ⟨a',by simpa using h1,h2⟩
theorem addr_off' (b o k:Nat):(⟨b,o,none⟩:Addr).add k=⟨b,o+k,none⟩:=by unfold Addr.add;split <;> simp_all
theorem rows_go (hT:TabOk P T) {S:List TypeId} {R:TypeId→List Value→Prop} (ih:∀ t cs,t ∈ S→R t cs→∃ ty row,T t=some ty∧RowR T w (fun _=>False) ty.cts cs row) :
    ∀ (gs:List Field) (off:Nat) (cts:List CT) (cs:List Value),flatGo P T S off gs cts=true→(∀ g ∈ gs,R g.type ((cs.drop g.offset).take (P.cellsOf g.type))) →
      ∃ row:List D,row.length=cts.length∧∀ (j:Nat) ct v d,cts[j]? = some ct→cs[off+j]? = some v→row[j]? = some d→RdR T w (fun _=>False) ct v d
  | [],off,cts,cs,h,_=>by
    have:cts=[]:=by simpa [flatGo] using h
    subst this
    exact ⟨[],rfl,fun j ct v d h=>by simp at h⟩
  | g :: gs,off,cts,cs,h,hg=>by
    unfold flatGo at h
    split at h
    · rename_i ty hty
      simp only [Bool.and_eq_true,beq_iff_eq,List.contains_iff_mem] at h
      obtain ⟨⟨⟨h1,h2⟩,h3⟩,h4⟩:=h
      obtain ⟨ty',r1,hty',a1,a2,a3⟩:=ih g.type _ h2 (hg g (List.mem_cons_self ..))
      rw [hty] at hty'
      obtain rfl:=Option.some.inj hty'
      obtain ⟨r2,b1,b2⟩:=rows_go hT ih gs (off+ty.cts.length) (cts.drop ty.cts.length) cs h4 (fun g' hg' => hg g' (List.mem_cons_of_mem _ hg'))
      have hlen:ty.cts.length≤cts.length:=by
        have:=congrArg List.length h3
        rw [List.length_take] at this
        omega
      refine ⟨r1++r2,by rw [List.length_append,a2,b1,List.length_drop];omega,fun j ct v d hc hv hd=>?_⟩
      by_cases hj:j < ty.cts.length
      · rw [List.getElem?_append_left (by rw [a2];exact hj)] at hd
        refine a3 j ct v d ?_ ?_ hd
        · rw [← h3,List.getElem?_take,if_pos hj];exact hc
        · rw [(hT _ _ hty).cellsOf,List.getElem?_take,if_pos hj,List.getElem?_drop,h1];exact hv
      · rw [List.getElem?_append_right (by rw [a2];omega),a2] at hd
        refine b2 (j - ty.cts.length) ct v d ?_ ?_ hd
        · rw [List.getElem?_drop];rw [show ty.cts.length+(j - ty.cts.length)=j by omega];exact hc
        · rw [show off+ty.cts.length+(j - ty.cts.length)=off+j by omega];exact hv
    · cases h
theorem row_of_trod (hT:TabOk P T) {H:Type} {enc:TypeId × Value→H} {S:List TypeId} (hS:S.all (flatOk P T S)=true) {sp:Nat→Bool} :
    ∀ (f:Nat) (t:TypeId) (cs:List Value) (x:DataW H × List MemPlace),t ∈ S→DataW.trod enc P w 0 sp true f t cs=some x→∃ ty row,T t=some ty∧RowR T w (fun _=>False) ty.cts cs row
  | 0,_,_,_,_,h=>by simp [DataW.trod] at h
  | f + 1, t,cs,x,ht,h=>by
    have one:∀ {ct v d},RdR T w (fun _=>False) ct v d→RowR T w (fun _=>False) [ct] [v] [d]:=fun {ct v d} h=>⟨rfl,rfl,fun j c u e a b g=>by
      cases j with
      | zero =>
        obtain rfl:=Option.some.inj a
        obtain rfl:=Option.some.inj b
        obtain rfl:=Option.some.inj g
        exact h
      | succ j=>cases a⟩
    have hp:flatOk P T S t=true:=List.all_eq_true.1 hS t ht
    unfold flatOk at hp
    split at hp
    · rename_i ty hty hu
      obtain ⟨b,e1,_,_⟩:=DataW.trod_bool hu h
      subst e1
      exact ⟨ty,[.b b],hty,by rw [show ty.cts=[.b] by simpa using hp];exact one (.bool b)⟩
    · rename_i ty k hty hu
      obtain ⟨n,e1,_,hw⟩:=DataW.trod_int hu h
      subst e1
      exact ⟨ty,[.i n],hty,by rw [show ty.cts=[.i k] by simpa using hp];exact one (.int k n (by simpa [Lit.wf,inK] using hw))⟩
    · rename_i ty hty hu
      obtain ⟨s,e1,_,hw⟩:=DataW.trod_string hu h
      subst e1
      exact ⟨ty,[.s s],hty,by rw [show ty.cts=[.s] by simpa using hp];exact one (.str s hw)⟩
    · rename_i ty e hty hu
      simp only [Bool.and_eq_true,decide_eq_true_eq,List.contains_iff_mem,beq_iff_eq] at hp
      obtain ⟨⟨hc,he⟩,hpos⟩:=hp
      rcases DataW.trod_slice hu h with ⟨e1,_⟩|⟨a,len,cap,elems,rest,n,hf,e1,_,_,hl,hm,hlen,hel,_,_⟩
      · subst e1
        exact ⟨ty,[.l []],hty,by rw [hc];exact one (.nil e none 0 (Nat.zero_le _))⟩
      · obtain rfl:f=n:=by omega
        subst e1
        by_cases hn:len=0
        · subst hn
          exact ⟨ty,[.l []],hty,by rw [hc];exact one (.nil e (some a) cap hm)⟩
        have step:∀ k y,elems[k]? = some y→∃ cs',w.cells? 0 (a.add (k * P.cellsOf e)) (P.cellsOf e)=some cs' ∧ DataW.trod enc P w 0 sp true f e cs' = some y:=by
          intro k y hy
          have hk:k < len:=by rw [← hlen];exact (List.getElem?_eq_some_iff.1 hy).1
          have h1:=hel k hk
          rw [hy] at h1
          cases hc:w.cells? 0 (a.add (k * P.cellsOf e)) (P.cellsOf e) with
          | none=>rw [hc] at h1;cases h1
          | some cs' => rw [hc] at h1;exact ⟨cs',rfl,h1⟩
        have hte:∃ te,T e=some te:=by
          obtain ⟨cs',_,ht'⟩:=step 0 _ (List.getElem?_eq_getElem (by omega))
          obtain ⟨te,_,hte,_⟩:=row_of_trod hT hS f e cs' _ he ht'
          exact ⟨te,hte⟩
        obtain ⟨te,hte⟩:=hte
        have hC:P.cellsOf e=te.cts.length:=(hT _ _ hte).cellsOf
        obtain ⟨rows,hxl,hx⟩:=list_choose' elems (fun k y (row:List D)=>∃ cs',w.cells? 0 (a.add (k * P.cellsOf e)) (P.cellsOf e)=some cs' ∧ RowR T w (fun _=>False) te.cts cs' row) (fun k y hy=>by
          obtain ⟨cs',hc,ht'⟩:=step k y hy
          obtain ⟨te',row,hte',hr⟩:=row_of_trod hT hS f e cs' y he ht'
          rw [hte] at hte'
          obtain rfl:=Option.some.inj hte'
          exact ⟨row,cs',hc,hr⟩)
        have hrl:rows.length=len:=hxl.trans hlen
        obtain ⟨b,o,spot⟩:=a
        have hs:spot=none∧b < w.heap.size:=by
          obtain ⟨cs',hc,_⟩:=step 0 _ (List.getElem?_eq_getElem (by omega))
          obtain ⟨_,hcl,hat⟩:=World.cells?_some hc
          have h0:=hat 0 hpos
          rw [List.getElem?_eq_getElem (by omega)] at h0
          have h1:=World.cell?_spot h0
          have h2:=World.block_lt_of_cell? w _ h0
          rw [Nat.zero_mul] at h1 h2
          exact ⟨by simpa [Addr.add] using h1,by simpa [Addr.add] using h2⟩
        obtain ⟨hs,hb⟩:=hs
        subst hs
        refine ⟨ty,[.l rows],hty,?_⟩
        rw [hc, ← hrl]
        have cell:∀ k row,rows[k]? = some row→∃ cs' : List Value,cs'.length=te.cts.length∧row.length=te.cts.length∧(∀ j,j < te.cts.length→w.cell? ⟨b,o+k * te.cts.length+j,none⟩=cs'[j]?)∧RowR T w (fun _=>False) te.cts cs' row:=by
          intro k row hk
          obtain ⟨y,_,cs',hc',hr⟩:=hx k row hk
          obtain ⟨_,hcl,hat⟩:=World.cells?_some hc'
          refine ⟨cs',hr.1,hr.2.1,fun j hj=>?_,hr⟩
          have h1:=hat j (by rw [hC];exact hj)
          rw [addr_off',addr_off',hC] at h1
          exact h1
        refine one (.sl e te b o cap rows (fun k j=>(w.cell? ⟨b,o+k * te.cts.length+j,none⟩).getD undef) hte (by omega) hm (fun h=>h) hb (fun k j hk hj=>?_) (fun k row hk=>?_) (fun k j ct d row hk hct hd=>?_))
        · obtain ⟨cs',c1,_,c2,_⟩:=cell k rows[k] (List.getElem?_eq_getElem hk)
          rw [c2 j hj,List.getElem?_eq_getElem (by omega)];rfl
        · obtain ⟨cs',_,c1,_⟩:=cell k row hk
          exact c1
        · obtain ⟨cs',c0,c1,c2,c3⟩:=cell k row hk
          have hj:j < te.cts.length:=(List.getElem?_eq_some_iff.1 hct).1
          have hv:cs'[j]? = some cs'[j]:=List.getElem?_eq_getElem (by omega)
          rw [c2 j hj,hv]
          exact c3.2.2 j ct _ d hct hv hd
    · rename_i ty fs hty hu
      obtain ⟨ys,n,hf,_,hcl,hyl,hg⟩:=DataW.trod_struct hu h
      obtain rfl:f=n:=by omega
      obtain ⟨row,h1,h2⟩:=rows_go (w:=w) hT (R:=fun t cs=>∃ x,DataW.trod enc P w 0 sp true f t cs=some x) (fun t cs ht ⟨x,hx⟩=>row_of_trod hT hS f t cs x ht hx) fs.toList 0 ty.cts cs hp (fun g hgm=>by
        obtain ⟨k,hk⟩:=List.getElem?_of_mem hgm
        have hk' : fs[k]? = some g:=by simpa using hk
        have hkl:k < fs.size:=(Array.getElem?_eq_some_iff.1 hk').1
        have h1:=hg k g hk'
        rw [List.getElem?_eq_getElem (show k < ys.length by omega)] at h1
        exact ⟨_,h1⟩)
      refine ⟨ty,row,hty,by rw [hcl];exact (hT _ _ hty).cellsOf,h1,fun j ct v d a b c=>h2 j ct v d a (by rw [Nat.zero_add];exact b) c⟩
    · cases hp
theorem RowR.wf {X:Nat→Prop} {cts:List CT} {cs:List Value} {row:List D} (h:RowR T w X cts cs row):WfRow T cts row:=by
  refine ⟨h.2.1,fun j ct d hc hd=>?_⟩
  have hj:j < cs.length:=by rw [h.1];exact (List.getElem?_eq_some_iff.1 hc).1
  exact (h.2.2 j ct _ d hc (List.getElem?_eq_getElem hj) hd).wf
theorem RdR.argC {X:Nat→Prop} {ct:CT} {v:Value} {d:D} (h:RdR T w X ct v d):ArgC T w X v (ofD ct d):=by
  cases h with
  | int k n h=>exact ⟨rfl,h⟩
  | bool x=>rfl
  | str x h=>exact ⟨rfl,h⟩
  | nil e A c h=>exact RdR.nil e A c h
  | sl e ty b o c rows vs h1 h2 h3 h4 h5 h6 h7 h8=>exact RdR.sl e ty b o c rows vs h1 h2 h3 h4 h5 h6 h7 h8
theorem RowR.argG {X:Nat→Prop} {cts:List CT} {cs:Array Value} {row:List D} (h:RowR T w X cts cs.toList row):ArgR T w X (.agg cs) (argG cts row):=by
  refine ⟨cs.toList,rfl,by simp [rowC, ← h.1],fun i c u hc hu=>?_⟩
  simp only [rowC,List.getElem?_map,List.getElem?_zipIdx,Nat.zero_add] at hc
  cases hct:cts[i]? with
  | none=>rw [hct] at hc;cases hc
  | some ct =>
    rw [hct] at hc
    obtain rfl:=Option.some.inj hc
    have hi:i < row.length:=by rw [h.2.1];exact (List.getElem?_eq_some_iff.1 hct).1
    have hd:row[i]? = some (row.getD i default):=by simp [List.getD_eq_getElem?_getD,List.getElem?_eq_getElem hi]
    exact (h.2.2 i ct u _ hct hu hd).argC
theorem RowR.argS {X:Nat→Prop} {e:TypeId} {v:Value} {row:List D} (h:RowR T w X [.l e] [v] row):ArgR T w X v (argS e (row.getD 0 default).rows):=by
  have hi:0 < row.length:=by rw [h.2.1];simp
  have hd:row[0]? = some (row.getD 0 default):=by simp [List.getD_eq_getElem?_getD,List.getElem?_eq_getElem hi]
  exact ⟨_,rfl,(h.2.2 0 _ v _ rfl rfl hd).argC⟩
theorem ArgsR.one {w:World} {X:Nat→Prop} {v:Value} {a:SV} (h:ArgR T w X v a):ArgsR T w X [v] [a]:=.cons h .nil
end Go.Proofs.YtppgalpldaibhaaGreatDoor.Ab
