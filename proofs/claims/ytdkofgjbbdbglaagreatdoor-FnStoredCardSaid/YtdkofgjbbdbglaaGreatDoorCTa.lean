/- A part. -/
import Derived.Test.YtdkofgjbbdbglaaGreatDoorCK6
import Derived.Test.YtdkofgjbbdbglaaGreatDoorCFa
namespace Go.Proofs.YtdkofgjbbdbglaaGreatDoor.Ab
open Go.RowKit
set_option linter.all false
set_option maxRecDepth 100000
def tab:List (TypeId × Ty):=[
 (2,⟨false,[.i .i64],[],0,8,false⟩),
 (3,⟨false,[.i .i64],[],0,8,false⟩),
 (4,⟨false,[.b],[],0,1,false⟩),
 (5,⟨false,[.i .u8],[],0,1,false⟩),
 (6,⟨false,[.i .u8],[],0,1,false⟩),
 (7,⟨true,[.i .i64,.i .i64,.b,.i .u8],[(0,1),(1,1),(2,1),(3,1)],0,24,false⟩),
 (8,⟨true,[.i .i64,.i .i64,.b,.i .u8],[(0,1),(1,1),(2,1),(3,1)],0,24,false⟩),
 (9,⟨false,[.s],[],0,16,false⟩),
 (10,⟨false,[.s],[],0,16,false⟩),
 (11,⟨false,[.s],[],0,16,false⟩),
 (12,⟨false,[.i .u64],[],0,8,false⟩),
 (13,⟨true,[.s,.i .u64],[(0,1),(1,1)],0,24,false⟩),
 (14,⟨true,[.s,.i .u64],[(0,1),(1,1)],0,24,false⟩),
 (21,⟨false,[.i .i32],[],0,4,false⟩),
 (22,⟨false,[.l 5],[],0,24,false⟩),
 (24,⟨true,[.s,.i .i64],[(0,1),(1,1)],0,24,false⟩),
 (25,⟨true,[.s,.i .i64],[(0,1),(1,1)],0,24,true⟩),
 (26,⟨false,[.l 3],[],0,24,false⟩),
 (27,⟨true,[.i .i64,.i .i64,.i .i64,.s,.s,.i .i64],[(0,1),(1,1),(2,1),(3,1),(4,1),(5,1)],0,64,false⟩),
 (28,⟨true,[.i .i64,.i .i64,.i .i64,.s,.s,.i .i64],[(0,1),(1,1),(2,1),(3,1),(4,1),(5,1)],0,64,true⟩),
 (29,⟨true,[.i .i64,.i .i64,.i .i64,.i .i64,.i .i64,.s,.s,.i .i64],[(0,1),(1,1),(2,6)],0,80,false⟩),
 (30,⟨true,[.i .i64,.i .i64,.i .i64,.i .i64,.i .i64,.s,.s,.i .i64],[(0,1),(1,1),(2,6)],0,80,true⟩),
 (31,⟨false,[.l 76],[],0,24,false⟩),
 (32,⟨true,[.i .i64,.i .i64,.i .i64,.l 3,.i .i64,.i .i64,.i .i64,.i .i64,.i .i64,.s,.s,.i .i64,.s,.s,.i .i64,.i .i64,.l 76],[(0,1),(1,1),(2,1),(3,1),(4,8),(12,1),(13,1),(14,1),(15,1),(16,1)],0,200,false⟩),
 (33,⟨true,[.i .i64,.i .i64,.i .i64,.l 3,.i .i64,.i .i64,.i .i64,.i .i64,.i .i64,.s,.s,.i .i64,.s,.s,.i .i64,.i .i64,.l 76],[(0,1),(1,1),(2,1),(3,1),(4,8),(12,1),(13,1),(14,1),(15,1),(16,1)],0,200,false⟩),
 (38,⟨false,[.l 33],[],0,24,false⟩),
 (54,⟨true,[.l 5,.i .i64,.i .i64],[(0,1),(1,1),(2,1)],0,40,false⟩),
 (55,⟨true,[.l 5,.i .i64,.i .i64],[(0,1),(1,1),(2,1)],0,40,false⟩),
 (70,⟨false,[.l 74],[],0,24,false⟩),
 (71,⟨false,[.l 9],[],0,24,false⟩),
 (72,⟨false,[.l 124],[],0,24,false⟩),
 (73,⟨true,[.i .i64,.i .i64,.i .i64,.s,.l 74,.l 9,.l 124],[(0,1),(1,1),(2,1),(3,1),(4,1),(5,1),(6,1)],0,112,false⟩),
 (74,⟨true,[.i .i64,.i .i64,.i .i64,.s,.l 74,.l 9,.l 124],[(0,1),(1,1),(2,1),(3,1),(4,1),(5,1),(6,1)],0,112,false⟩),
 (75,⟨true,[.i .i64,.i .i64,.i .i64,.s,.i .i64,.i .i64,.i .i64,.s,.l 74,.l 9,.l 124],[(0,1),(1,1),(2,1),(3,1),(4,7)],0,152,false⟩),
 (76,⟨true,[.i .i64,.i .i64,.i .i64,.s,.i .i64,.i .i64,.i .i64,.s,.l 74,.l 9,.l 124],[(0,1),(1,1),(2,1),(3,1),(4,7)],0,152,false⟩),
 (87,⟨true,[.l 9,.b],[(0,1),(1,1)],0,32,false⟩),
 (88,⟨true,[.l 9,.b],[(0,1),(1,1)],0,32,false⟩),
 (94,⟨false,[.i .u32],[],0,4,false⟩),
 (95,⟨false,[.i .u64],[],0,8,false⟩),
 (100,⟨true,[.l 9,.i .i64],[(0,1),(1,1)],0,32,false⟩),
 (101,⟨true,[.l 9,.i .i64],[(0,1),(1,1)],0,32,false⟩),
 (107,⟨true,[.l 9,.b],[(0,1),(1,1)],0,32,false⟩),
 (108,⟨true,[.l 9,.b],[(0,1),(1,1)],0,32,false⟩),
 (122,⟨false,[.l 150],[],0,24,false⟩),
 (123,⟨true,[.l 3,.l 150],[(0,1),(1,1)],0,48,false⟩),
 (124,⟨true,[.l 3,.l 150],[(0,1),(1,1)],0,48,false⟩),
 (136,⟨true,[.s,.i .i64,.b],[(0,1),(1,1),(2,1)],0,32,false⟩),
 (137,⟨true,[.s,.i .i64,.b],[(0,1),(1,1),(2,1)],0,32,true⟩),
 (142,⟨false,[.l 144],[],0,24,false⟩),
 (143,⟨true,[.i .i64,.i .i64,.s,.l 144],[(0,1),(1,1),(2,1),(3,1)],0,56,false⟩),
 (144,⟨true,[.i .i64,.i .i64,.s,.l 144],[(0,1),(1,1),(2,1),(3,1)],0,56,false⟩),
 (149,⟨true,[.i .i64,.i .i64],[(0,1),(1,1)],0,16,false⟩),
 (150,⟨true,[.i .i64,.i .i64],[(0,1),(1,1)],0,16,true⟩),
 (190,⟨false,[.i .u64],[],0,8,false⟩),
 (219,⟨false,[.i .i64],[],0,8,false⟩),
 (225,⟨false,[.i .u8],[],0,1,false⟩),
 (237,⟨true,[.i .u8,.i .u8],[(0,1),(1,1)],0,2,false⟩),
 (238,⟨true,[.i .u8,.i .u8],[(0,1),(1,1)],0,2,false⟩),
 (242,⟨true,[.s],[(0,1)],0,16,false⟩),
 (243,⟨true,[.s],[(0,1)],0,16,false⟩),
 (251,⟨false,[.i .u8],[],0,1,false⟩),
 (252,⟨false,[.i .u8],[],0,1,false⟩),
 (254,⟨false,[.i .i32],[],0,4,false⟩),
 (255,⟨false,[.i .i32],[],0,4,false⟩)]
abbrev T:Tab:=vj tab [(1,[(.l 9,.l [[.s ⟨#[109,105,115,115,105,110,103]⟩],[.s ⟨#[100,117,112,108,105,99,97,116,101]⟩],[.s ⟨#[99,121,99,108,101]⟩],[.s ⟨#[116,121,112,101]⟩],[.s ⟨#[114,97,110,103,101]⟩],[.s ⟨#[108,105,109,105,116]⟩],[.s ⟨#[99,111,108,117,109,110]⟩],[.s ⟨#[115,121,110,116,97,120]⟩]])]),(2,[(.i .u64,.i 1),(.i .u64,.i 10),(.i .u64,.i 100),(.i .u64,.i 1000),(.i .u64,.i 10000),(.i .u64,.i 100000),(.i .u64,.i 1000000),(.i .u64,.i 10000000),(.i .u64,.i 100000000),(.i .u64,.i 1000000000),(.i .u64,.i 10000000000),(.i .u64,.i 100000000000),(.i .u64,.i 1000000000000),(.i .u64,.i 10000000000000),(.i .u64,.i 100000000000000),(.i .u64,.i 1000000000000000),(.i .u64,.i 10000000000000000),(.i .u64,.i 100000000000000000),(.i .u64,.i 1000000000000000000),(.i .u64,.i 10000000000000000000)])] [(0,false),(3,true),(4,true),(5,true)]
theorem ty_2:TyOk Tryz.prog T 2 ⟨false,[.i .i64],[],0,8,false⟩:=TyOk.mkOne (c:=.i .i64) Tryz.underlying2 rfl (by kernel_rfl) rfl rfl (by kernel_rfl)
theorem ty_3:TyOk Tryz.prog T 3 ⟨false,[.i .i64],[],0,8,false⟩:=TyOk.mkOne (c:=.i .i64) Tryz.underlying3 rfl (by kernel_rfl) rfl rfl (by kernel_rfl)
theorem ty_4:TyOk Tryz.prog T 4 ⟨false,[.b],[],0,1,false⟩:=TyOk.mkOne (c:=.b) Tryz.underlying4 rfl (by kernel_rfl) rfl rfl (by kernel_rfl)
theorem ty_5:TyOk Tryz.prog T 5 ⟨false,[.i .u8],[],0,1,false⟩:=TyOk.mkOne (c:=.i .u8) Tryz.underlying5 rfl (by kernel_rfl) rfl rfl (by kernel_rfl)
theorem ty_6:TyOk Tryz.prog T 6 ⟨false,[.i .u8],[],0,1,false⟩:=TyOk.mkOne (c:=.i .u8) Tryz.underlying6 rfl (by kernel_rfl) rfl rfl (by kernel_rfl)
theorem ty_7:TyOk Tryz.prog T 7 ⟨true,[.i .i64,.i .i64,.b,.i .u8],[(0,1),(1,1),(2,1),(3,1)],0,24,false⟩:=TyOk.mkAgg (by kernel_rfl) rfl (by kernel_rfl) (show Tryz.prog.underlying 7=some (.struct _) from Tryz.underlying7) (by kernel_rfl) (by kernel_rfl) (fun h=>by cases h)
theorem ty_8:TyOk Tryz.prog T 8 ⟨true,[.i .i64,.i .i64,.b,.i .u8],[(0,1),(1,1),(2,1),(3,1)],0,24,false⟩:=TyOk.mkAgg (by kernel_rfl) rfl (by kernel_rfl) (show Tryz.prog.underlying 8=some (.struct _) from Tryz.underlying8) (by kernel_rfl) (by kernel_rfl) (fun h=>by cases h)
theorem ty_9:TyOk Tryz.prog T 9 ⟨false,[.s],[],0,16,false⟩:=TyOk.mkOne (c:=.s) Tryz.underlying9 rfl (by kernel_rfl) rfl rfl (by kernel_rfl)
theorem ty_10:TyOk Tryz.prog T 10 ⟨false,[.s],[],0,16,false⟩:=TyOk.mkOne (c:=.s) Tryz.underlying10 rfl (by kernel_rfl) rfl rfl (by kernel_rfl)
theorem ty_11:TyOk Tryz.prog T 11 ⟨false,[.s],[],0,16,false⟩:=TyOk.mkOne (c:=.s) Tryz.underlying11 rfl (by kernel_rfl) rfl rfl (by kernel_rfl)
theorem ty_12:TyOk Tryz.prog T 12 ⟨false,[.i .u64],[],0,8,false⟩:=TyOk.mkOne (c:=.i .u64) Tryz.underlying12 rfl (by kernel_rfl) rfl rfl (by kernel_rfl)
theorem ty_13:TyOk Tryz.prog T 13 ⟨true,[.s,.i .u64],[(0,1),(1,1)],0,24,false⟩:=TyOk.mkAgg (by kernel_rfl) rfl (by kernel_rfl) (show Tryz.prog.underlying 13=some (.struct _) from Tryz.underlying13) (by kernel_rfl) (by kernel_rfl) (fun h=>by cases h)
theorem ty_14:TyOk Tryz.prog T 14 ⟨true,[.s,.i .u64],[(0,1),(1,1)],0,24,false⟩:=TyOk.mkAgg (by kernel_rfl) rfl (by kernel_rfl) (show Tryz.prog.underlying 14=some (.struct _) from Tryz.underlying14) (by kernel_rfl) (by kernel_rfl) (fun h=>by cases h)
theorem ty_21:TyOk Tryz.prog T 21 ⟨false,[.i .i32],[],0,4,false⟩:=TyOk.mkOne (c:=.i .i32) Tryz.underlying21 rfl (by kernel_rfl) rfl rfl (by kernel_rfl)
theorem ty_22:TyOk Tryz.prog T 22 ⟨false,[.l 5],[],0,24,false⟩:=TyOk.mkOne (c:=.l 5) Tryz.underlying22 rfl (by kernel_rfl) rfl rfl (by kernel_rfl)
theorem ty_24:TyOk Tryz.prog T 24 ⟨true,[.s,.i .i64],[(0,1),(1,1)],0,24,false⟩:=TyOk.mkAgg (by kernel_rfl) rfl (by kernel_rfl) (show Tryz.prog.underlying 24=some (.struct _) from Tryz.underlying24) (by kernel_rfl) (by kernel_rfl) (fun h=>by cases h)
theorem eq_25:i8 Tryz.prog 25 [.s,.i .i64]:=by
 refine ⟨by kernel_rfl,fun w a b ha hb=>?_⟩
 match a,ha,b,hb with
 | [.s x0,.i x1],_,[.s y0,.i y1],_ =>
   have u3:=Tryz.underlying3
   have a3:=Tryz.isAgg3
   have z3:=Tryz.sizeOf3
   have u9:=Tryz.underlying9
   have a9:=Tryz.isAgg9
   have z9:=Tryz.sizeOf9
   have hS:Tryz.prog.underlying 25=some (.struct (Tryz.prog.fieldsOf 25)):=by kernel_rfl
   have hp:Tryz.prog.stoodInHeld 25=false:=by kernel_rfl
   simp only [eh,valOf]
   rw [show (10000:Nat)=9999+1 from rfl,run_equalIn_agg w 9999 25 _ _ hS hp]
   simp only [Program.fieldsOf,Tryz.underlying25,eqDs,eqD]
   go_simp
   by_cases h0:x0.toList=y0.toList
   ·
    by_cases h1:x1=y1
    · simp [h0,h1]
    · simp [h0,h1]
   · simp [h0]
theorem ty_25:TyOk Tryz.prog T 25 ⟨true,[.s,.i .i64],[(0,1),(1,1)],0,24,true⟩:=TyOk.mkAgg (by kernel_rfl) rfl (by kernel_rfl) (show Tryz.prog.underlying 25=some (.struct _) from Tryz.underlying25) (by kernel_rfl) (by kernel_rfl) (fun _=>eq_25)
theorem ty_26:TyOk Tryz.prog T 26 ⟨false,[.l 3],[],0,24,false⟩:=TyOk.mkOne (c:=.l 3) Tryz.underlying26 rfl (by kernel_rfl) rfl rfl (by kernel_rfl)
theorem ty_27:TyOk Tryz.prog T 27 ⟨true,[.i .i64,.i .i64,.i .i64,.s,.s,.i .i64],[(0,1),(1,1),(2,1),(3,1),(4,1),(5,1)],0,64,false⟩:=TyOk.mkAgg (by kernel_rfl) rfl (by kernel_rfl) (show Tryz.prog.underlying 27=some (.struct _) from Tryz.underlying27) (by kernel_rfl) (by kernel_rfl) (fun h=>by cases h)
theorem eq_28:i8 Tryz.prog 28 [.i .i64,.i .i64,.i .i64,.s,.s,.i .i64]:=by
 refine ⟨by kernel_rfl,fun w a b ha hb=>?_⟩
 match a,ha,b,hb with
 | [.i x0, .i x1,.i x2,.s x3,.s x4,.i x5],_,[.i y0,.i y1,.i y2,.s y3,.s y4,.i y5],_ =>
   have u3:=Tryz.underlying3
   have a3:=Tryz.isAgg3
   have z3:=Tryz.sizeOf3
   have u9:=Tryz.underlying9
   have a9:=Tryz.isAgg9
   have z9:=Tryz.sizeOf9
   have hS:Tryz.prog.underlying 28=some (.struct (Tryz.prog.fieldsOf 28)):=by kernel_rfl
   have hp:Tryz.prog.stoodInHeld 28=false:=by kernel_rfl
   simp only [eh,valOf]
   rw [show (10000:Nat)=9999+1 from rfl,run_equalIn_agg w 9999 28 _ _ hS hp]
   simp only [Program.fieldsOf,Tryz.underlying28,eqDs,eqD]
   go_simp
   by_cases h0:x0=y0
   ·
    by_cases h1:x1=y1
    ·
     by_cases h2:x2=y2
     ·
      by_cases h3:x3.toList=y3.toList
      ·
       by_cases h4:x4.toList=y4.toList
       ·
        by_cases h5:x5=y5
        · simp [h0,h1,h2,h3,h4,h5]
        · simp [h0,h1,h2,h3,h4,h5]
       · simp [h0,h1,h2,h3,h4]
      · simp [h0,h1,h2,h3]
     · simp [h0,h1,h2]
    · simp [h0,h1]
   · simp [h0]
theorem ty_28:TyOk Tryz.prog T 28 ⟨true,[.i .i64,.i .i64,.i .i64,.s,.s,.i .i64],[(0,1),(1,1),(2,1),(3,1),(4,1),(5,1)],0,64,true⟩:=TyOk.mkAgg (by kernel_rfl) rfl (by kernel_rfl) (show Tryz.prog.underlying 28=some (.struct _) from Tryz.underlying28) (by kernel_rfl) (by kernel_rfl) (fun _=>eq_28)
theorem ty_29:TyOk Tryz.prog T 29 ⟨true,[.i .i64,.i .i64,.i .i64,.i .i64,.i .i64,.s,.s,.i .i64],[(0,1),(1,1),(2,6)],0,80,false⟩:=TyOk.mkAgg (by kernel_rfl) rfl (by kernel_rfl) (show Tryz.prog.underlying 29=some (.struct _) from Tryz.underlying29) (by kernel_rfl) (by kernel_rfl) (fun h=>by cases h)
theorem eq_30:i8 Tryz.prog 30 [.i .i64,.i .i64,.i .i64,.i .i64,.i .i64,.s,.s,.i .i64]:=by
 refine ⟨by kernel_rfl,fun w a b ha hb=>?_⟩
 match a,ha,b,hb with
 | [.i x0, .i x1, .i x2,.i x3,.i x4,.s x5,.s x6,.i x7],_,[.i y0,.i y1,.i y2,.i y3,.i y4,.s y5,.s y6,.i y7],_ =>
   have u3:=Tryz.underlying3
   have a3:=Tryz.isAgg3
   have z3:=Tryz.sizeOf3
   have u9:=Tryz.underlying9
   have a9:=Tryz.isAgg9
   have z9:=Tryz.sizeOf9
   have u28:=Tryz.underlying28
   have a28:=Tryz.isAgg28
   have z28:=Tryz.sizeOf28
   have hS:Tryz.prog.underlying 30=some (.struct (Tryz.prog.fieldsOf 30)):=by kernel_rfl
   have hp:Tryz.prog.stoodInHeld 30=false:=by kernel_rfl
   have hS28:Tryz.prog.underlying 28=some (.struct (Tryz.prog.fieldsOf 28)):=by kernel_rfl
   have hp28:Tryz.prog.stoodInHeld 28=false:=by kernel_rfl
   simp only [eh,valOf]
   rw [show (10000:Nat)=9999+1 from rfl,run_equalIn_agg w 9999 30 _ _ hS hp]
   simp only [Program.fieldsOf,Tryz.underlying30,eqDs,eqD]
   go_simp
   by_cases h0:x0=y0
   ·
    by_cases h1:x1=y1
    ·
     by_cases h2:x2=y2
     ·
      by_cases h3:x3=y3
      ·
       by_cases h4:x4=y4
       ·
        by_cases h5:x5.toList=y5.toList
        ·
         by_cases h6:x6.toList=y6.toList
         ·
          by_cases h7:x7=y7
          · simp [h0,h1,h2,h3,h4,h5,h6,h7]
          · simp [h0,h1,h2,h3,h4,h5,h6,h7]
         · simp [h0,h1,h2,h3,h4,h5,h6]
        · simp [h0,h1,h2,h3,h4,h5]
       · simp [h0,h1,h2,h3,h4]
      · simp [h0,h1,h2,h3]
     · simp [h0,h1,h2]
    · simp [h0,h1]
   · simp [h0]
theorem ty_30:TyOk Tryz.prog T 30 ⟨true,[.i .i64,.i .i64,.i .i64,.i .i64,.i .i64,.s,.s,.i .i64],[(0,1),(1,1),(2,6)],0,80,true⟩:=TyOk.mkAgg (by kernel_rfl) rfl (by kernel_rfl) (show Tryz.prog.underlying 30=some (.struct _) from Tryz.underlying30) (by kernel_rfl) (by kernel_rfl) (fun _=>eq_30)
theorem ty_31:TyOk Tryz.prog T 31 ⟨false,[.l 76],[],0,24,false⟩:=TyOk.mkOne (c:=.l 76) Tryz.underlying31 rfl (by kernel_rfl) rfl rfl (by kernel_rfl)
theorem ty_32:TyOk Tryz.prog T 32 ⟨true,[.i .i64,.i .i64,.i .i64,.l 3,.i .i64,.i .i64,.i .i64,.i .i64,.i .i64,.s,.s,.i .i64,.s,.s,.i .i64,.i .i64,.l 76],[(0,1),(1,1),(2,1),(3,1),(4,8),(12,1),(13,1),(14,1),(15,1),(16,1)],0,200,false⟩:=TyOk.mkAgg (by kernel_rfl) rfl (by kernel_rfl) (show Tryz.prog.underlying 32=some (.struct _) from Tryz.underlying32) (by kernel_rfl) (by kernel_rfl) (fun h=>by cases h)
theorem ty_33:TyOk Tryz.prog T 33 ⟨true,[.i .i64,.i .i64,.i .i64,.l 3,.i .i64,.i .i64,.i .i64,.i .i64,.i .i64,.s,.s,.i .i64,.s,.s,.i .i64,.i .i64,.l 76],[(0,1),(1,1),(2,1),(3,1),(4,8),(12,1),(13,1),(14,1),(15,1),(16,1)],0,200,false⟩:=TyOk.mkAgg (by kernel_rfl) rfl (by kernel_rfl) (show Tryz.prog.underlying 33=some (.struct _) from Tryz.underlying33) (by kernel_rfl) (by kernel_rfl) (fun h=>by cases h)
theorem ty_38:TyOk Tryz.prog T 38 ⟨false,[.l 33],[],0,24,false⟩:=TyOk.mkOne (c:=.l 33) Tryz.underlying38 rfl (by kernel_rfl) rfl rfl (by kernel_rfl)
theorem ty_54:TyOk Tryz.prog T 54 ⟨true,[.l 5,.i .i64,.i .i64],[(0,1),(1,1),(2,1)],0,40,false⟩:=TyOk.mkAgg (by kernel_rfl) rfl (by kernel_rfl) (show Tryz.prog.underlying 54=some (.struct _) from Tryz.underlying54) (by kernel_rfl) (by kernel_rfl) (fun h=>by cases h)
theorem ty_55:TyOk Tryz.prog T 55 ⟨true,[.l 5,.i .i64,.i .i64],[(0,1),(1,1),(2,1)],0,40,false⟩:=TyOk.mkAgg (by kernel_rfl) rfl (by kernel_rfl) (show Tryz.prog.underlying 55=some (.struct _) from Tryz.underlying55) (by kernel_rfl) (by kernel_rfl) (fun h=>by cases h)
theorem ty_70:TyOk Tryz.prog T 70 ⟨false,[.l 74],[],0,24,false⟩:=TyOk.mkOne (c:=.l 74) Tryz.underlying70 rfl (by kernel_rfl) rfl rfl (by kernel_rfl)
theorem ty_71:TyOk Tryz.prog T 71 ⟨false,[.l 9],[],0,24,false⟩:=TyOk.mkOne (c:=.l 9) Tryz.underlying71 rfl (by kernel_rfl) rfl rfl (by kernel_rfl)
theorem ty_72:TyOk Tryz.prog T 72 ⟨false,[.l 124],[],0,24,false⟩:=TyOk.mkOne (c:=.l 124) Tryz.underlying72 rfl (by kernel_rfl) rfl rfl (by kernel_rfl)
theorem ty_73:TyOk Tryz.prog T 73 ⟨true,[.i .i64,.i .i64,.i .i64,.s,.l 74,.l 9,.l 124],[(0,1),(1,1),(2,1),(3,1),(4,1),(5,1),(6,1)],0,112,false⟩:=TyOk.mkAgg (by kernel_rfl) rfl (by kernel_rfl) (show Tryz.prog.underlying 73=some (.struct _) from Tryz.underlying73) (by kernel_rfl) (by kernel_rfl) (fun h=>by cases h)
theorem ty_74:TyOk Tryz.prog T 74 ⟨true,[.i .i64,.i .i64,.i .i64,.s,.l 74,.l 9,.l 124],[(0,1),(1,1),(2,1),(3,1),(4,1),(5,1),(6,1)],0,112,false⟩:=TyOk.mkAgg (by kernel_rfl) rfl (by kernel_rfl) (show Tryz.prog.underlying 74=some (.struct _) from Tryz.underlying74) (by kernel_rfl) (by kernel_rfl) (fun h=>by cases h)
theorem ty_75:TyOk Tryz.prog T 75 ⟨true,[.i .i64,.i .i64,.i .i64,.s,.i .i64,.i .i64,.i .i64,.s,.l 74,.l 9,.l 124],[(0,1),(1,1),(2,1),(3,1),(4,7)],0,152,false⟩:=TyOk.mkAgg (by kernel_rfl) rfl (by kernel_rfl) (show Tryz.prog.underlying 75=some (.struct _) from Tryz.underlying75) (by kernel_rfl) (by kernel_rfl) (fun h=>by cases h)
theorem ty_76:TyOk Tryz.prog T 76 ⟨true,[.i .i64,.i .i64,.i .i64,.s,.i .i64,.i .i64,.i .i64,.s,.l 74,.l 9,.l 124],[(0,1),(1,1),(2,1),(3,1),(4,7)],0,152,false⟩:=TyOk.mkAgg (by kernel_rfl) rfl (by kernel_rfl) (show Tryz.prog.underlying 76=some (.struct _) from Tryz.underlying76) (by kernel_rfl) (by kernel_rfl) (fun h=>by cases h)
theorem ty_87:TyOk Tryz.prog T 87 ⟨true,[.l 9,.b],[(0,1),(1,1)],0,32,false⟩:=TyOk.mkAgg (by kernel_rfl) rfl (by kernel_rfl) (show Tryz.prog.underlying 87=some (.struct _) from Tryz.underlying87) (by kernel_rfl) (by kernel_rfl) (fun h=>by cases h)
theorem ty_88:TyOk Tryz.prog T 88 ⟨true,[.l 9,.b],[(0,1),(1,1)],0,32,false⟩:=TyOk.mkAgg (by kernel_rfl) rfl (by kernel_rfl) (show Tryz.prog.underlying 88=some (.struct _) from Tryz.underlying88) (by kernel_rfl) (by kernel_rfl) (fun h=>by cases h)
theorem ty_94:TyOk Tryz.prog T 94 ⟨false,[.i .u32],[],0,4,false⟩:=TyOk.mkOne (c:=.i .u32) Tryz.underlying94 rfl (by kernel_rfl) rfl rfl (by kernel_rfl)
theorem ty_95:TyOk Tryz.prog T 95 ⟨false,[.i .u64],[],0,8,false⟩:=TyOk.mkOne (c:=.i .u64) Tryz.underlying95 rfl (by kernel_rfl) rfl rfl (by kernel_rfl)
theorem jaV:TyOk Tryz.prog T 100 ⟨true,[.l 9,.i .i64],[(0,1),(1,1)],0,32,false⟩:=TyOk.mkAgg (by kernel_rfl) rfl (by kernel_rfl) (show Tryz.prog.underlying 100=some (.struct _) from Tryz.underlying100) (by kernel_rfl) (by kernel_rfl) (fun h=>by cases h)
theorem jaU:TyOk Tryz.prog T 101 ⟨true,[.l 9,.i .i64],[(0,1),(1,1)],0,32,false⟩:=TyOk.mkAgg (by kernel_rfl) rfl (by kernel_rfl) (show Tryz.prog.underlying 101=some (.struct _) from Tryz.underlying101) (by kernel_rfl) (by kernel_rfl) (fun h=>by cases h)
theorem jaT:TyOk Tryz.prog T 107 ⟨true,[.l 9,.b],[(0,1),(1,1)],0,32,false⟩:=TyOk.mkAgg (by kernel_rfl) rfl (by kernel_rfl) (show Tryz.prog.underlying 107=some (.struct _) from Tryz.underlying107) (by kernel_rfl) (by kernel_rfl) (fun h=>by cases h)
theorem jaS:TyOk Tryz.prog T 108 ⟨true,[.l 9,.b],[(0,1),(1,1)],0,32,false⟩:=TyOk.mkAgg (by kernel_rfl) rfl (by kernel_rfl) (show Tryz.prog.underlying 108=some (.struct _) from Tryz.underlying108) (by kernel_rfl) (by kernel_rfl) (fun h=>by cases h)
theorem jaR:TyOk Tryz.prog T 122 ⟨false,[.l 150],[],0,24,false⟩:=TyOk.mkOne (c:=.l 150) Tryz.underlying122 rfl (by kernel_rfl) rfl rfl (by kernel_rfl)
theorem jaQ:TyOk Tryz.prog T 123 ⟨true,[.l 3,.l 150],[(0,1),(1,1)],0,48,false⟩:=TyOk.mkAgg (by kernel_rfl) rfl (by kernel_rfl) (show Tryz.prog.underlying 123=some (.struct _) from Tryz.underlying123) (by kernel_rfl) (by kernel_rfl) (fun h=>by cases h)
theorem jaP:TyOk Tryz.prog T 124 ⟨true,[.l 3,.l 150],[(0,1),(1,1)],0,48,false⟩:=TyOk.mkAgg (by kernel_rfl) rfl (by kernel_rfl) (show Tryz.prog.underlying 124=some (.struct _) from Tryz.underlying124) (by kernel_rfl) (by kernel_rfl) (fun h=>by cases h)
theorem jaO:TyOk Tryz.prog T 136 ⟨true,[.s,.i .i64,.b],[(0,1),(1,1),(2,1)],0,32,false⟩:=TyOk.mkAgg (by kernel_rfl) rfl (by kernel_rfl) (show Tryz.prog.underlying 136=some (.struct _) from Tryz.underlying136) (by kernel_rfl) (by kernel_rfl) (fun h=>by cases h)
theorem jcy:i8 Tryz.prog 137 [.s,.i .i64,.b]:=by
 refine ⟨by kernel_rfl,fun w a b ha hb=>?_⟩
 match a,ha,b,hb with
 | [.s x0,.i x1,.b x2],_,[.s y0,.i y1,.b y2],_ =>
   have u3:=Tryz.underlying3
   have a3:=Tryz.isAgg3
   have z3:=Tryz.sizeOf3
   have u4:=Tryz.underlying4
   have a4:=Tryz.isAgg4
   have z4:=Tryz.sizeOf4
   have u9:=Tryz.underlying9
   have a9:=Tryz.isAgg9
   have z9:=Tryz.sizeOf9
   have hS:Tryz.prog.underlying 137=some (.struct (Tryz.prog.fieldsOf 137)):=by kernel_rfl
   have hp:Tryz.prog.stoodInHeld 137=false:=by kernel_rfl
   simp only [eh,valOf]
   rw [show (10000:Nat)=9999+1 from rfl,run_equalIn_agg w 9999 137 _ _ hS hp]
   simp only [Program.fieldsOf,Tryz.underlying137,eqDs,eqD]
   go_simp
   by_cases h0:x0.toList=y0.toList
   ·
    by_cases h1:x1=y1
    ·
     by_cases h2:x2=y2
     · simp [h0,h1,h2]
     · simp [h0,h1,h2]
    · simp [h0,h1]
   · simp [h0]
theorem jaN:TyOk Tryz.prog T 137 ⟨true,[.s,.i .i64,.b],[(0,1),(1,1),(2,1)],0,32,true⟩:=TyOk.mkAgg (by kernel_rfl) rfl (by kernel_rfl) (show Tryz.prog.underlying 137=some (.struct _) from Tryz.underlying137) (by kernel_rfl) (by kernel_rfl) (fun _=>jcy)
theorem jaM:TyOk Tryz.prog T 142 ⟨false,[.l 144],[],0,24,false⟩:=TyOk.mkOne (c:=.l 144) Tryz.underlying142 rfl (by kernel_rfl) rfl rfl (by kernel_rfl)
theorem jaL:TyOk Tryz.prog T 143 ⟨true,[.i .i64,.i .i64,.s,.l 144],[(0,1),(1,1),(2,1),(3,1)],0,56,false⟩:=TyOk.mkAgg (by kernel_rfl) rfl (by kernel_rfl) (show Tryz.prog.underlying 143=some (.struct _) from Tryz.underlying143) (by kernel_rfl) (by kernel_rfl) (fun h=>by cases h)
theorem jaK:TyOk Tryz.prog T 144 ⟨true,[.i .i64,.i .i64,.s,.l 144],[(0,1),(1,1),(2,1),(3,1)],0,56,false⟩:=TyOk.mkAgg (by kernel_rfl) rfl (by kernel_rfl) (show Tryz.prog.underlying 144=some (.struct _) from Tryz.underlying144) (by kernel_rfl) (by kernel_rfl) (fun h=>by cases h)
theorem jaJ:TyOk Tryz.prog T 149 ⟨true,[.i .i64,.i .i64],[(0,1),(1,1)],0,16,false⟩:=TyOk.mkAgg (by kernel_rfl) rfl (by kernel_rfl) (show Tryz.prog.underlying 149=some (.struct _) from Tryz.underlying149) (by kernel_rfl) (by kernel_rfl) (fun h=>by cases h)
theorem jcx:i8 Tryz.prog 150 [.i .i64,.i .i64]:=by
 refine ⟨by kernel_rfl,fun w a b ha hb=>?_⟩
 match a,ha,b,hb with
 | [.i x0,.i x1],_,[.i y0,.i y1],_ =>
   have u3:=Tryz.underlying3
   have a3:=Tryz.isAgg3
   have z3:=Tryz.sizeOf3
   have hS:Tryz.prog.underlying 150=some (.struct (Tryz.prog.fieldsOf 150)):=by kernel_rfl
   have hp:Tryz.prog.stoodInHeld 150=false:=by kernel_rfl
   simp only [eh,valOf]
   rw [show (10000:Nat)=9999+1 from rfl,run_equalIn_agg w 9999 150 _ _ hS hp]
   simp only [Program.fieldsOf,Tryz.underlying150,eqDs,eqD]
   go_simp
   by_cases h0:x0=y0
   ·
    by_cases h1:x1=y1
    · simp [h0,h1]
    · simp [h0,h1]
   · simp [h0]
theorem jaI:TyOk Tryz.prog T 150 ⟨true,[.i .i64,.i .i64],[(0,1),(1,1)],0,16,true⟩:=TyOk.mkAgg (by kernel_rfl) rfl (by kernel_rfl) (show Tryz.prog.underlying 150=some (.struct _) from Tryz.underlying150) (by kernel_rfl) (by kernel_rfl) (fun _=>jcx)
theorem jaH:TyOk Tryz.prog T 190 ⟨false,[.i .u64],[],0,8,false⟩:=TyOk.mkOne (c:=.i .u64) Tryz.underlying190 rfl (by kernel_rfl) rfl rfl (by kernel_rfl)
theorem jaG:TyOk Tryz.prog T 219 ⟨false,[.i .i64],[],0,8,false⟩:=TyOk.mkOne (c:=.i .i64) Tryz.underlying219 rfl (by kernel_rfl) rfl rfl (by kernel_rfl)
theorem jaF:TyOk Tryz.prog T 225 ⟨false,[.i .u8],[],0,1,false⟩:=TyOk.mkOne (c:=.i .u8) Tryz.underlying225 rfl (by kernel_rfl) rfl rfl (by kernel_rfl)
theorem jaE:TyOk Tryz.prog T 237 ⟨true,[.i .u8,.i .u8],[(0,1),(1,1)],0,2,false⟩:=TyOk.mkAgg (by kernel_rfl) rfl (by kernel_rfl) (show Tryz.prog.underlying 237=some (.struct _) from Tryz.underlying237) (by kernel_rfl) (by kernel_rfl) (fun h=>by cases h)
theorem jaD:TyOk Tryz.prog T 238 ⟨true,[.i .u8,.i .u8],[(0,1),(1,1)],0,2,false⟩:=TyOk.mkAgg (by kernel_rfl) rfl (by kernel_rfl) (show Tryz.prog.underlying 238=some (.struct _) from Tryz.underlying238) (by kernel_rfl) (by kernel_rfl) (fun h=>by cases h)
theorem jaC:TyOk Tryz.prog T 242 ⟨true,[.s],[(0,1)],0,16,false⟩:=TyOk.mkAgg (by kernel_rfl) rfl (by kernel_rfl) (show Tryz.prog.underlying 242=some (.struct _) from Tryz.underlying242) (by kernel_rfl) (by kernel_rfl) (fun h=>by cases h)
theorem jaB:TyOk Tryz.prog T 243 ⟨true,[.s],[(0,1)],0,16,false⟩:=TyOk.mkAgg (by kernel_rfl) rfl (by kernel_rfl) (show Tryz.prog.underlying 243=some (.struct _) from Tryz.underlying243) (by kernel_rfl) (by kernel_rfl) (fun h=>by cases h)
theorem jaA:TyOk Tryz.prog T 251 ⟨false,[.i .u8],[],0,1,false⟩:=TyOk.mkOne (c:=.i .u8) Tryz.underlying251 rfl (by kernel_rfl) rfl rfl (by kernel_rfl)
theorem jaz:TyOk Tryz.prog T 252 ⟨false,[.i .u8],[],0,1,false⟩:=TyOk.mkOne (c:=.i .u8) Tryz.underlying252 rfl (by kernel_rfl) rfl rfl (by kernel_rfl)
theorem jay:TyOk Tryz.prog T 254 ⟨false,[.i .i32],[],0,4,false⟩:=TyOk.mkOne (c:=.i .i32) Tryz.underlying254 rfl (by kernel_rfl) rfl rfl (by kernel_rfl)
theorem jax:TyOk Tryz.prog T 255 ⟨false,[.i .i32],[],0,4,false⟩:=TyOk.mkOne (c:=.i .i32) Tryz.underlying255 rfl (by kernel_rfl) rfl rfl (by kernel_rfl)
theorem tabT:bc Tryz.prog T:=tabOk fun p hp=>by
 simp only [tab,jde,jda,or_false] at hp
 rcases hp with rfl|rfl|rfl|rfl|rfl|rfl|rfl|rfl|rfl|rfl|rfl|rfl|rfl|rfl|rfl|rfl|rfl|rfl|rfl|rfl|rfl|rfl|rfl|rfl|rfl|rfl|rfl|rfl|rfl|rfl|rfl|rfl|rfl|rfl|rfl|rfl|rfl|rfl|rfl|rfl|rfl|rfl|rfl|rfl|rfl|rfl|rfl|rfl|rfl|rfl|rfl|rfl|rfl|rfl|rfl|rfl|rfl|rfl|rfl|rfl|rfl|rfl|rfl|rfl
 · exact ty_2
 · exact ty_3
 · exact ty_4
 · exact ty_5
 · exact ty_6
 · exact ty_7
 · exact ty_8
 · exact ty_9
 · exact ty_10
 · exact ty_11
 · exact ty_12
 · exact ty_13
 · exact ty_14
 · exact ty_21
 · exact ty_22
 · exact ty_24
 · exact ty_25
 · exact ty_26
 · exact ty_27
 · exact ty_28
 · exact ty_29
 · exact ty_30
 · exact ty_31
 · exact ty_32
 · exact ty_33
 · exact ty_38
 · exact ty_54
 · exact ty_55
 · exact ty_70
 · exact ty_71
 · exact ty_72
 · exact ty_73
 · exact ty_74
 · exact ty_75
 · exact ty_76
 · exact ty_87
 · exact ty_88
 · exact ty_94
 · exact ty_95
 · exact jaV
 · exact jaU
 · exact jaT
 · exact jaS
 · exact jaR
 · exact jaQ
 · exact jaP
 · exact jaO
 · exact jaN
 · exact jaM
 · exact jaL
 · exact jaK
 · exact jaJ
 · exact jaI
 · exact jaH
 · exact jaG
 · exact jaF
 · exact jaE
 · exact jaD
 · exact jaC
 · exact jaB
 · exact jaA
 · exact jaz
 · exact jay
 · exact jax
theorem mixed:Tryz.prog.follows .mixedOrders=true:=by kernel_rfl
noncomputable instance:DecidableEq D:=fun a b=>Classical.propDecidable (a=b)
abbrev argS (e:TypeId) (rows:List (List D)):SV:=.val false [.sl false e rows]
def rowC (cts:List CT) (row:List D):List CV:=cts.zipIdx.map fun (ct,j)=>ofD ct (row.getD j default)
abbrev argG (cts:List CT) (row:List D):SV:=.val true (rowC cts row)
def CV.d:CV→D
 | .i _ n=>.i n
 | .b x=>.b x
 | .s x=>.s x
 | .sl _ _ rows=>.l rows
 | _=>.i 0
def csD (cs:List CV):List D:=cs.map CV.d
def WfRow (T:Tab) (cts:List CT) (row:List D):Prop:=row.length=cts.length∧∀ (j:Nat) ct d,cts[j]? = some ct→row[j]? = some d→WfD T ct d
theorem WfD.row {e:TypeId} {te:Ty} {rows:List (List D)} (h:WfD T (.l e) (.l rows)) (he:T e=some te) {k:Nat} (hk:k < rows.length):WfRow T te.cts (rows.getD k []):=by
 have hr:rows[k]? = some (rows.getD k []):=by simp [jdb,jc5 hk]
 cases h with
 | nil=>simp at hk
 | sl _ ty _ h1 h2 h3 h4 =>
   rw [he] at h1
   obtain rfl:=jc9 h1
   exact ⟨h3 k _ hr,fun j ct d a b=>h4 k j ct d _ hr a b⟩
theorem WfD.len {e:TypeId} {rows:List (List D)} (h:WfD T (.l e) (.l rows)):rows.length≤maxLen:=by
 cases h with
 | nil=>exact jc7 _
 | sl _ ty _ h1 h2 h3 h4=>exact h2
theorem WfD.int' {k:IntKind} {d:D} (h:WfD T (.i k) d):∃ n,d=.i n∧inK k n:=by cases h with|int _ n h=>exact ⟨n,rfl,h⟩
theorem WfD.str' {d:D} (h:WfD T .s d):∃ x,d=.s x∧x.size≤maxLen:=by cases h with|str x h=>exact ⟨x,rfl,h⟩
theorem WfD.sl' {e:TypeId} {d:D} (h:WfD T (.l e) d):∃ rows,d=.l rows∧WfD T (.l e) (.l rows):=by
 cases h with
 | nil=>exact ⟨[],rfl,.nil e⟩
 | sl _ ty rows h1 h2 h3 h4=>exact ⟨rows,rfl,.sl e ty rows h1 h2 h3 h4⟩
theorem WfRow.nil' {row:List D} (h:WfRow T [] row):row=[]:=jdD.1 h.1
theorem WfRow.cons' {ct:CT} {cts:List CT} {row:List D} (h:WfRow T (ct :: cts) row):∃ d r,row=d :: r∧WfD T ct d∧WfRow T cts r:=by
 cases row with
 | nil=>exact absurd h.1 (by simp)
 | cons d r=>exact ⟨d,r,rfl,h.2 0 ct d rfl rfl,by simpa using h.1,fun j ct' d' a b=>h.2 (j+1) ct' d' (by simpa using a) (by simpa using b)⟩
noncomputable def eqS (e:TypeId):FSpec where
 pre args:=∃ a b:List (List D),args=[argS e a,argS e b]
 res args:=match args with
  | [.val false [.sl _ _ a],.val false [.sl _ _ b]]=>.val false [.b (decide (a=b))]
  | _=>.none
noncomputable def eqG (cts:List CT):FSpec where
 pre args:=∃ a b:List D,WfRow T cts a∧WfRow T cts b∧args=[argG cts a,argG cts b]
 res args:=match args with
  | [.val true a,.val true b]=>.val false [.b (decide (csD a=csD b))]
  | _=>.none
theorem ni {a b:List (List D)} (h:((a.length:Int) != (b.length:Int))=true):a ≠ b:=by
 intro he;subst he;simp at h
theorem kn {a b:List (List D)} (h:((a.length:Int) != (b.length:Int))=false):a.length=b.length:=by
 have h' : (a.length:Int)=(b.length:Int):=by simpa using h
 omega
theorem bU {a b:List (List D)} {i:Int} (hl:a.length=b.length) (h0:0≤i) (hi:i≤a.length) (hn:decide (i < (a.length:Int))=false) (h:a.take i.toNat=b.take i.toNat):a=b:=by
 have hn' : ¬ i < (a.length:Int):=by simpa using hn
 have:i.toNat=a.length:=by omega
 rw [this,jdZ,hl,jdZ] at h
 exact h
theorem fH {a:List (List D)} {i:Int} (h0:0≤i) (hi:i < a.length):a[i.toNat]? = some (a.getD i.toNat []):=by
 have:i.toNat < a.length:=by omega
 simp [jdb,jc5 this]
theorem cw {a b:List (List D)} {i:Int} (h0:0≤i) (hi:i < a.length) (hl:a.length=b.length) (h:a.take i.toNat=b.take i.toNat) (he:a.getD i.toNat []=b.getD i.toNat []):a.take (i+1).toNat=b.take (i+1).toNat:=by
 have e:(i+1).toNat=i.toNat+1:=by omega
 rw [e,jd5,jd5,h,fH h0 hi,fH h0 (by omega),he]
theorem aC {i:Int} {n:Nat} (h0:0≤i) (hi:i < n) (hn:n≤maxLen):IntKind.i64.wrap (i+1)=i+1:=by
 simp only [maxLen] at hn
 rw [IntKind.wrap_i64];omega
theorem c7 {P:Prop} [Decidable P] (h:¬ P):[CV.b false]=[CV.b (decide P)]:=by rw [decide_eq_false h]
theorem iu {P:Prop} [Decidable P] (h:P):[CV.b true]=[CV.b (decide P)]:=by rw [decide_eq_true h]
theorem sN {c:Bool} {P:Prop} [Decidable P] (h:c=true ↔ P):[CV.b c]=[CV.b (decide P)]:=by
 have:c=decide P:=by rw [jeT,decide_eq_true_iff];exact h
 rw [this]
theorem WfRow.rows {cts:List CT} {r:List D} (h:WfRow T cts r) {j:Nat} {e:TypeId} (hj:cts[j]? = some (.l e)):WfD T (.l e) (.l (r.getD j default).rows):=by
 have hl:j < r.length:=by rw [h.1];exact (jdg.1 hj).1
 have e1:r[j]? = some (r.getD j default):=by simp [jdb,jc5 hl]
 obtain ⟨rows,h1,h2⟩:=(h.2 j _ _ hj e1).sl'
 rw [h1]
 exact h2
noncomputable def eqP (cts:List CT) (k:Nat):FSpec where
 pre args:=∃ a b:List D,WfRow T cts a∧WfRow T cts b∧args=[argG cts a,argG cts b]
 res args:=match args with
  | [.val true a,.val true b]=>.val false [.b (decide ((csD a).take k=(csD b).take k))]
  | _=>.none
noncomputable def eqFn (cts:List CT) (n:Nat):FSpec where
 pre args:=∃ a b:List D,WfRow T cts a∧WfRow T cts b∧SizeOf.sizeOf a < n∧args=[argG cts a,argG cts b,.val false [.b true]]
 res args:=match args with
  | [.val true a,.val true b,_]=>.val false [.b (decide (csD a=csD b))]
  | _=>.none
noncomputable def eqF (cts:List CT):FSpec where
 pre args:=∃ a b:List D,WfRow T cts a∧WfRow T cts b∧args=[argG cts a,argG cts b,.val false [.b true]]
 res:=(eqFn cts 0).res
def sub (r:List D) (k n:Nat):List D:=(List.range n).map fun j=>r.getD (k+j) default
theorem WfRow.sub {cts:List CT} {r:List D} (h:WfRow T cts r) (k n:Nat) (hk:k+n≤cts.length):WfRow T ((cts.drop k).take n) (sub r k n):=by
 refine ⟨by simp [Ab.sub];omega,fun j ct d h1 h2=>?_⟩
 rw [jd2,jeg] at h1
 split at h1
 · rename_i hj
   have e:(Ab.sub r k n)[j]? = some (r.getD (k+j) default):=by simp [Ab.sub,hj]
   rw [e] at h2
   have hl:k+j < r.length:=by rw [h.1];omega
   refine h.2 (k+j) ct d h1 ?_
   rw [← jc9 h2]
   simp [jdb,jc5 hl]
 · cases h1
theorem d_ofD {ct:CT} {d:D} (h:WfD T ct d):(ofD ct d).d=d:=by cases h <;> rfl
theorem aw {cts:List CT} {r:List D} (h:WfRow T cts r):csD (rowC cts r)=r:=by
 refine List.ext_getElem (by simp [csD,rowC,h.1]) fun j h1 h2=>?_
 have hj:j < cts.length:=by rw [← h.1];exact h2
 have:=d_ofD (h.2 j cts[j] r[j] (jc5 hj) (jc5 h2))
 simp [csD,rowC,jdb,jc5 h2,this]
theorem eS {cts:List CT} {r s:List D} (hr:WfRow T cts r) (hs:WfRow T cts s) (h:csD (rowC cts r)=csD (rowC cts s)):r=s:=by rwa [aw hr,aw hs] at h
theorem aW (x y:ByteArray):(x.toList=y.toList)=(x=y):=by
 refine propext ⟨fun h=>?_,fun h=>by rw [h]⟩
 rw [ByteArray.toList_eq,ByteArray.toList_eq] at h
 exact jes (Array.toList_inj.1 h)
theorem FOk.lift {P:Program} {f:FuncId} {s:Nat→FSpec} {s' : FSpec} (h:∀ n,FOk P T f (s n)) (hs:∀ args,s'.pre args→∃ n,(s n).pre args) (hr:∀ n,(s n).res=s'.res)
 (hb:∀ n,(s n).bx=s'.bx:=by intro n;rfl) (hu:∀ n,(s n).upd=s'.upd:=by intro n;rfl) (hq:∀ n,(s n).nb=s'.nb:=by intro n;rfl):FOk P T f s' := by
 refine ⟨(h 0).1,fun hbx hnb w X b ob cs args vals h1 h2 h3 h4 h5 h6 h7 hgl hpre=>?_,fun hbx w X args vals hX hargs hgl hpre=>?_,fun hbx hnb w X args vals hX hargs hpre=>?_⟩
 · obtain ⟨n,hn⟩:=hs _ hpre
   have:=(h n).okb ((hb n).trans hbx) ((hq n).trans hnb) w X b ob cs args vals h1 h2 h3 h4 h5 h6 h7 hgl hn
   rwa [hr n,hu n] at this
 · obtain ⟨n,hn⟩:=hs args hpre
   have:=(h n).ok ((hb n).trans hbx) w X args vals hX hargs hgl hn
   rwa [hr n] at this
 · obtain ⟨n,hn⟩:=hs args hpre
   have:=(h n).okn ((hb n).trans hbx) ((hq n).trans hnb) w X args vals hX hargs hn
   rwa [hu n] at this
theorem eK {r:List D} {j:Nat} (h:j < r.length):SizeOf.sizeOf (r.getD j default).rows < SizeOf.sizeOf r:=by
 have h1:r.getD j default ∈ r:=by simp [jdb,jc5 h]
 have h2:=List.sizeOf_lt_of_mem h1
 have h3:SizeOf.sizeOf (r.getD j default).rows≤SizeOf.sizeOf (r.getD j default):=by
  cases r.getD j default <;> simp [D.rows]
 omega
theorem jk {a:List (List D)} {k:Nat} (h:k < a.length):SizeOf.sizeOf (a.getD k []) < SizeOf.sizeOf a:=by
 have h1:a.getD k [] ∈ a:=by simp [jdb,jc5 h]
 exact List.sizeOf_lt_of_mem h1
def envL:List (FuncId × FSpec)→FuncId→Option FSpec
 | [],_=>none
 | (g,s) :: l,f=>if f=g then some s else envL l f
theorem ae {P:Program}:gj P T (envL []):=fun f s h=>by cases h
theorem aa {P:Program} {g:FuncId} {s:FSpec} {l:List (FuncId × FSpec)} (h:FOk P T g s) (hl:gj P T (envL l)):gj P T (envL ((g,s) :: l)):=fun f s' hf=>by
 simp only [envL] at hf
 split at hf
 · rename_i e;subst e;obtain rfl:=jc9 hf;exact h
 · exact hl f s' hf
theorem arg0 {ag:Bool} {cs:List CV} {l:List SV} (h:∀ a ∈ SV.val ag cs :: l,WfSV T a) {c:CV} (h2:c ∈ cs):WfC T c:=h _ (jdB ..) c h2
theorem arg1 {x:SV} {ag:Bool} {cs:List CV} {l:List SV} (h:∀ a ∈ x :: SV.val ag cs :: l,WfSV T a) {c:CV} (h2:c ∈ cs):WfC T c:=h _ (jdP _ (jdB ..)) c h2
end Go.Proofs.YtdkofgjbbdbglaaGreatDoor.Ab
namespace Go.Proofs.YtdkofgjbbdbglaaGreatDoor.Ab
open Go.RowKit Go.ChangeShapes Go.WideShapes
set_option linter.all false
abbrev cV:List CT:=[.i .i64,.i .i64,.i .i64,.s,.l 74,.l 9,.l 124]
abbrev cO:List CT:=[.i .i64,.i .i64,.i .i64,.l 3,.i .i64,.i .i64,.i .i64,.i .i64,.i .i64,.s,.s,.i .i64,.s,.s,.i .i64,.i .i64,.l 76]
variable {P:Program} {T:Tab} {w:World}
def RowR (T:Tab) (w:World) (X:Nat→Prop) (cts:List CT) (cs:List Value) (row:List D):Prop :=
 cs.length=cts.length∧row.length=cts.length∧∀ (j:Nat) ct v d,cts[j]? = some ct→cs[j]? = some v→row[j]? = some d→RdR T w X ct v d
def nF (P:Program) (T:Tab) (S:List TypeId):Nat→List Field→List CT→Bool
 | _,[],cts=>cts.isEmpty
 | off,g :: gs,cts=>match T g.type with
   | some ty=>g.offset == off && S.contains g.type && cts.take ty.cts.length == ty.cts && nF P T S (off+ty.cts.length) gs (cts.drop ty.cts.length)
   | none=>false
def qg (P:Program) (T:Tab) (S:List TypeId) (t:TypeId):Bool :=
 match T t,P.underlying t with
 | some ty,some .bool=>ty.cts == [.b]
 | some ty,some (.int k)=>ty.cts == [.i k]
 | some ty,some .string=>ty.cts == [.s]
 | some ty,some (.slice e)=>ty.cts == [.l e] && S.contains e && decide (0 < P.cellsOf e)
 | some ty,some (.struct fs)=>nF P T S 0 fs.toList ty.cts
 | _,_=>false
theorem iT {α β:Type}:∀ (l:List α) (Q:Nat→α→β→Prop),(∀ k a,l[k]? = some a→∃ b,Q k a b)→∃ xs:List β,xs.length=l.length∧∀ k x,xs[k]? = some x→∃ a,l[k]? = some a∧Q k a x
 | [],_,_=>⟨[],rfl,fun k x h=>by simp at h⟩
 | a :: r,Q,h=>by
   obtain ⟨b,hb⟩:=h 0 a rfl
   obtain ⟨xs,hl,hx⟩:=iT r (fun k=>Q (k+1)) (fun k a' h' => h (k+1) a' (by simpa using h'))
   refine ⟨b :: xs,by simp [hl],fun k x hk=>?_⟩
   cases k with
   | zero =>
     have e:b=x:=by simpa using hk
     subst e
     exact ⟨a,rfl,hb⟩
   | succ k =>
     obtain ⟨a',h1,h2⟩:=hx k x (by simpa using hk)
     exact ⟨a',by simpa using h1,h2⟩
theorem fj (b o k:Nat):(⟨b,o,none⟩:Addr).add k=⟨b,o+k,none⟩:=by unfold Addr.add;split <;> simp_all
theorem sB (hT:bc P T) {S:List TypeId} {R:TypeId→List Value→Prop} (ih:∀ t cs,t ∈ S→R t cs→∃ ty row,T t=some ty∧RowR T w (fun _=>False) ty.cts cs row) :
 ∀ (gs:List Field) (off:Nat) (cts:List CT) (cs:List Value),nF P T S off gs cts=true→(∀ g ∈ gs,R g.type ((cs.drop g.offset).take (P.cellsOf g.type))) →
   ∃ row:List D,row.length=cts.length∧∀ (j:Nat) ct v d,cts[j]? = some ct→cs[off+j]? = some v→row[j]? = some d→RdR T w (fun _=>False) ct v d
 | [],off,cts,cs,h,_=>by
   have:cts=[]:=by simpa [nF] using h
   subst this
   exact ⟨[],rfl,fun j ct v d h=>by simp at h⟩
 | g :: gs,off,cts,cs,h,hg=>by
   unfold nF at h
   split at h
   · rename_i ty hty
     simp only [jdj,beq_iff_eq,jeH] at h
     obtain ⟨⟨⟨h1,h2⟩,h3⟩,h4⟩:=h
     obtain ⟨ty',r1,hty',a1,a2,a3⟩:=ih g.type _ h2 (hg g (jdB ..))
     rw [hty] at hty'
     obtain rfl:=jc9 hty'
     obtain ⟨r2,b1,b2⟩:=sB hT ih gs (off+ty.cts.length) (cts.drop ty.cts.length) cs h4 (fun g' hg' => hg g' (jdP _ hg'))
     have hlen:ty.cts.length≤cts.length:=by
      have:=congrArg List.length h3
      rw [jdp] at this
      omega
     refine ⟨r1++r2,by rw [jc8,a2,b1,jdL];omega,fun j ct v d hc hv hd=>?_⟩
     by_cases hj:j < ty.cts.length
     · rw [jef (by rw [a2];exact hj)] at hd
       refine a3 j ct v d ?_ ?_ hd
       · rw [← h3,jd2,if_pos hj];exact hc
       · rw [(hT _ _ hty).cellsOf,jd2,if_pos hj,jeg,h1];exact hv
     · rw [jeh (by rw [a2];omega),a2] at hd
       refine b2 (j - ty.cts.length) ct v d ?_ ?_ hd
       · rw [jeg];rw [show ty.cts.length+(j - ty.cts.length)=j by omega];exact hc
       · rw [show off+ty.cts.length+(j - ty.cts.length)=off+j by omega];exact hv
   · cases h
theorem dT (hT:bc P T) {H:Type} {enc:TypeId × Value→H} {S:List TypeId} (hS:S.all (qg P T S)=true) {sp:Nat→Bool} :
 ∀ (f:Nat) (t:TypeId) (cs:List Value) (x:DataW H × List MemPlace),t ∈ S→DataW.trod enc P w 0 sp true f t cs=some x→∃ ty row,T t=some ty∧RowR T w (fun _=>False) ty.cts cs row
 | 0,_,_,_,_,h=>by simp [DataW.trod] at h
 | f + 1, t,cs,x,ht,h=>by
   have one:∀ {ct v d},RdR T w (fun _=>False) ct v d→RowR T w (fun _=>False) [ct] [v] [d]:=fun {ct v d} h=>⟨rfl,rfl,fun j c u e a b g=>by
    cases j with
    | zero =>
      obtain rfl:=jc9 a
      obtain rfl:=jc9 b
      obtain rfl:=jc9 g
      exact h
    | succ j=>cases a⟩
   have hp:qg P T S t=true:=jdt.1 hS t ht
   unfold qg at hp
   split at hp
   · rename_i ty hty hu
     obtain ⟨b,e1,_,_⟩:=DataW.trod_bool hu h
     subst e1
     exact ⟨ty,[.b b],hty,by rw [show ty.cts=[.b] by simpa using hp];exact one (.bool b)⟩
   · rename_i ty k hty hu
     obtain ⟨n,e1,_,hw⟩:=DataW.trod_int hu h
     subst e1
     exact ⟨ty,[.i n],hty,by rw [show ty.cts=[.i k] by simpa using hp];exact one (.int k n (by simpa [Lit.wf,inK] using hw))⟩
   · rename_i ty hty hu
     obtain ⟨s,e1,_,hw⟩:=DataW.trod_string hu h
     subst e1
     exact ⟨ty,[.s s],hty,by rw [show ty.cts=[.s] by simpa using hp];exact one (.str s hw)⟩
   · rename_i ty e hty hu
     simp only [jdj,decide_eq_true_eq,jeH,beq_iff_eq] at hp
     obtain ⟨⟨hc,he⟩,hpos⟩:=hp
     rcases DataW.trod_slice hu h with ⟨e1,_⟩|⟨a,len,cap,elems,rest,n,hf,e1,_,_,hl,hm,hlen,hel,_,_⟩
     · subst e1
       exact ⟨ty,[.l []],hty,by rw [hc];exact one (.nil e none 0 (jc7 _))⟩
     · obtain rfl:f=n:=by omega
       subst e1
       by_cases hn:len=0
       · subst hn
         exact ⟨ty,[.l []],hty,by rw [hc];exact one (.nil e (some a) cap hm)⟩
       have step:∀ k y,elems[k]? = some y→∃ cs',w.cells? 0 (a.add (k * P.cellsOf e)) (P.cellsOf e)=some cs' ∧ DataW.trod enc P w 0 sp true f e cs' = some y:=by
        intro k y hy
        have hk:k < len:=by rw [← hlen];exact (jdg.1 hy).1
        have h1:=hel k hk
        rw [hy] at h1
        cases hc:w.cells? 0 (a.add (k * P.cellsOf e)) (P.cellsOf e) with
        | none=>rw [hc] at h1;cases h1
        | some cs' => rw [hc] at h1;exact ⟨cs',rfl,h1⟩
       have hte:∃ te,T e=some te:=by
        obtain ⟨cs',_,ht'⟩:=step 0 _ (jc5 (by omega))
        obtain ⟨te,_,hte,_⟩:=dT hT hS f e cs' _ he ht'
        exact ⟨te,hte⟩
       obtain ⟨te,hte⟩:=hte
       have hC:P.cellsOf e=te.cts.length:=(hT _ _ hte).cellsOf
       obtain ⟨rows,hxl,hx⟩:=iT elems (fun k y (row:List D)=>∃ cs',w.cells? 0 (a.add (k * P.cellsOf e)) (P.cellsOf e)=some cs' ∧ RowR T w (fun _=>False) te.cts cs' row) (fun k y hy=>by
        obtain ⟨cs',hc,ht'⟩:=step k y hy
        obtain ⟨te',row,hte',hr⟩:=dT hT hS f e cs' y he ht'
        rw [hte] at hte'
        obtain rfl:=jc9 hte'
        exact ⟨row,cs',hc,hr⟩)
       have hrl:rows.length=len:=hxl.trans hlen
       obtain ⟨b,o,spot⟩:=a
       have hs:spot=none∧b < w.heap.size:=by
        obtain ⟨cs',hc,_⟩:=step 0 _ (jc5 (by omega))
        obtain ⟨_,hcl,hat⟩:=World.cells?_some hc
        have h0:=hat 0 hpos
        rw [jc5 (by omega)] at h0
        have h1:=World.cell?_spot h0
        have h2:=World.block_lt_of_cell? w _ h0
        rw [Nat.zero_mul] at h1 h2
        exact ⟨by simpa [Addr.add] using h1,by simpa [Addr.add] using h2⟩
       obtain ⟨hs,hb⟩:=hs
       subst hs
       refine ⟨ty,[.l rows],hty,?_⟩
       rw [hc, ← hrl]
       have cell:∀ k row,rows[k]? = some row→∃ cs' : List Value,cs'.length=te.cts.length∧row.length=te.cts.length∧(∀ j,j < te.cts.length→w.cell? ⟨b,o+k * te.cts.length+j,none⟩=cs'[j]?)∧RowR T w (fun _=>False) te.cts cs' row:=by
        intro k row hk
        obtain ⟨y,_,cs',hc',hr⟩:=hx k row hk
        obtain ⟨_,hcl,hat⟩:=World.cells?_some hc'
        refine ⟨cs',hr.1,hr.2.1,fun j hj=>?_,hr⟩
        have h1:=hat j (by rw [hC];exact hj)
        rw [fj,fj,hC] at h1
        exact h1
       refine one (.sl e te b o cap rows (fun k j=>(w.cell? ⟨b,o+k * te.cts.length+j,none⟩).getD undef) hte (by omega) hm (fun h=>h) hb (fun k j hk hj=>?_) (fun k row hk=>?_) (fun k j ct d row hk hct hd=>?_))
       · obtain ⟨cs',c1,_,c2,_⟩:=cell k rows[k] (jc5 hk)
         rw [c2 j hj,jc5 (by omega)];rfl
       · obtain ⟨cs',_,c1,_⟩:=cell k row hk
         exact c1
       · obtain ⟨cs',c0,c1,c2,c3⟩:=cell k row hk
         have hj:j < te.cts.length:=(jdg.1 hct).1
         have hv:cs'[j]? = some cs'[j]:=jc5 (by omega)
         rw [c2 j hj,hv]
         exact c3.2.2 j ct _ d hct hv hd
   · rename_i ty fs hty hu
     obtain ⟨ys,n,hf,_,hcl,hyl,hg⟩:=DataW.trod_struct hu h
     obtain rfl:f=n:=by omega
     obtain ⟨row,h1,h2⟩:=sB (w:=w) hT (R:=fun t cs=>∃ x,DataW.trod enc P w 0 sp true f t cs=some x) (fun t cs ht ⟨x,hx⟩=>dT hT hS f t cs x ht hx) fs.toList 0 ty.cts cs hp (fun g hgm=>by
      obtain ⟨k,hk⟩:=jec hgm
      have hk' : fs[k]? = some g:=by simpa using hk
      have hkl:k < fs.size:=(jeb.1 hk').1
      have h1:=hg k g hk'
      rw [jc5 (show k < ys.length by omega)] at h1
      exact ⟨_,h1⟩)
     refine ⟨ty,row,hty,by rw [hcl];exact (hT _ _ hty).cellsOf,h1,fun j ct v d a b c=>h2 j ct v d a (by rw [jdN];exact b) c⟩
   · cases hp
theorem RowR.wf {X:Nat→Prop} {cts:List CT} {cs:List Value} {row:List D} (h:RowR T w X cts cs row):WfRow T cts row:=by
 refine ⟨h.2.1,fun j ct d hc hd=>?_⟩
 have hj:j < cs.length:=by rw [h.1];exact (jdg.1 hc).1
 exact (h.2.2 j ct _ d hc (jc5 hj) hd).wf
theorem RdR.argC {X:Nat→Prop} {ct:CT} {v:Value} {d:D} (h:RdR T w X ct v d):ArgC T w X v (ofD ct d):=by
 cases h with
 | int k n h=>exact ⟨rfl,h⟩
 | bool x=>rfl
 | str x h=>exact ⟨rfl,h⟩
 | nil e A c h=>exact RdR.nil e A c h
 | sl e ty b o c rows vs h1 h2 h3 h4 h5 h6 h7 h8=>exact RdR.sl e ty b o c rows vs h1 h2 h3 h4 h5 h6 h7 h8
theorem RowR.argG {X:Nat→Prop} {cts:List CT} {cs:Array Value} {row:List D} (h:RowR T w X cts cs.toList row):ArgR T w X (.agg cs) (argG cts row):=by
 refine ⟨cs.toList,rfl,by simp [rowC, ← h.1],fun i c u hc hu=>?_⟩
 simp only [rowC,jdx,je5,jdN] at hc
 cases hct:cts[i]? with
 | none=>rw [hct] at hc;cases hc
 | some ct =>
   rw [hct] at hc
   obtain rfl:=jc9 hc
   have hi:i < row.length:=by rw [h.2.1];exact (jdg.1 hct).1
   have hd:row[i]? = some (row.getD i default):=by simp [jdb,jc5 hi]
   exact (h.2.2 i ct u _ hct hu hd).argC
theorem RowR.argS {X:Nat→Prop} {e:TypeId} {v:Value} {row:List D} (h:RowR T w X [.l e] [v] row):ArgR T w X v (argS e (row.getD 0 default).rows):=by
 have hi:0 < row.length:=by rw [h.2.1];simp
 have hd:row[0]? = some (row.getD 0 default):=by simp [jdb,jc5 hi]
 exact ⟨_,rfl,(h.2.2 0 _ v _ rfl rfl hd).argC⟩
theorem ArgsR.one {w:World} {X:Nat→Prop} {v:Value} {a:SV} (h:ArgR T w X v a):ArgsR T w X [v] [a]:=.cons h .nil
end Go.Proofs.YtdkofgjbbdbglaaGreatDoor.Ab
