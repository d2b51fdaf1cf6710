/- A part. -/
import Derived.Test.YtdjfhmghebommaaGreatDoorDK6
import Derived.Test.YtdjfhmghebommaaGreatDoorDFa
namespace Go.Proofs.YtdjfhmghebommaaGreatDoor.Ab
open Go.RowKit
set_option linter.all false
set_option maxRecDepth 100000
def tab:List (TypeId × Ty):=[
 (2,⟨false,[.i .i64],[],0,8,false⟩),
 (3,⟨false,[.i .i64],[],0,8,false⟩),
 (4,⟨false,[.b],[],0,1,false⟩),
 (5,⟨false,[.i .u8],[],0,1,false⟩),
 (6,⟨false,[.i .u8],[],0,1,false⟩),
 (7,⟨true,[.i .i64,.i .i64,.b,.i .u8],[(0,1),(1,1),(2,1),(3,1)],0,24,false⟩),
 (8,⟨true,[.i .i64,.i .i64,.b,.i .u8],[(0,1),(1,1),(2,1),(3,1)],0,24,false⟩),
 (9,⟨false,[.s],[],0,16,false⟩),
 (10,⟨false,[.s],[],0,16,false⟩),
 (11,⟨false,[.s],[],0,16,false⟩),
 (12,⟨false,[.i .u64],[],0,8,false⟩),
 (13,⟨true,[.s,.i .u64],[(0,1),(1,1)],0,24,false⟩),
 (14,⟨true,[.s,.i .u64],[(0,1),(1,1)],0,24,false⟩),
 (21,⟨false,[.i .i32],[],0,4,false⟩),
 (22,⟨false,[.l 3],[],0,24,false⟩),
 (23,⟨true,[.i .i64,.i .i64,.i .i64,.s,.s,.i .i64],[(0,1),(1,1),(2,1),(3,1),(4,1),(5,1)],0,64,false⟩),
 (24,⟨true,[.i .i64,.i .i64,.i .i64,.s,.s,.i .i64],[(0,1),(1,1),(2,1),(3,1),(4,1),(5,1)],0,64,true⟩),
 (25,⟨true,[.i .i64,.i .i64,.i .i64,.i .i64,.i .i64,.s,.s,.i .i64],[(0,1),(1,1),(2,6)],0,80,false⟩),
 (26,⟨true,[.i .i64,.i .i64,.i .i64,.i .i64,.i .i64,.s,.s,.i .i64],[(0,1),(1,1),(2,6)],0,80,true⟩),
 (27,⟨false,[.l 55],[],0,24,false⟩),
 (28,⟨true,[.i .i64,.i .i64,.i .i64,.l 3,.i .i64,.i .i64,.i .i64,.i .i64,.i .i64,.s,.s,.i .i64,.s,.s,.i .i64,.i .i64,.l 55],[(0,1),(1,1),(2,1),(3,1),(4,8),(12,1),(13,1),(14,1),(15,1),(16,1)],0,200,false⟩),
 (29,⟨true,[.i .i64,.i .i64,.i .i64,.l 3,.i .i64,.i .i64,.i .i64,.i .i64,.i .i64,.s,.s,.i .i64,.s,.s,.i .i64,.i .i64,.l 55],[(0,1),(1,1),(2,1),(3,1),(4,8),(12,1),(13,1),(14,1),(15,1),(16,1)],0,200,false⟩),
 (38,⟨false,[.l 29],[],0,24,false⟩),
 (44,⟨false,[.l 9],[],0,24,false⟩),
 (46,⟨true,[.l 9,.i .i64],[(0,1),(1,1)],0,32,false⟩),
 (47,⟨true,[.l 9,.i .i64],[(0,1),(1,1)],0,32,false⟩),
 (50,⟨false,[.l 53],[],0,24,false⟩),
 (51,⟨false,[.l 126],[],0,24,false⟩),
 (52,⟨true,[.i .i64,.i .i64,.i .i64,.s,.l 53,.l 9,.l 126],[(0,1),(1,1),(2,1),(3,1),(4,1),(5,1),(6,1)],0,112,false⟩),
 (53,⟨true,[.i .i64,.i .i64,.i .i64,.s,.l 53,.l 9,.l 126],[(0,1),(1,1),(2,1),(3,1),(4,1),(5,1),(6,1)],0,112,false⟩),
 (54,⟨true,[.i .i64,.i .i64,.i .i64,.s,.i .i64,.i .i64,.i .i64,.s,.l 53,.l 9,.l 126],[(0,1),(1,1),(2,1),(3,1),(4,7)],0,152,false⟩),
 (55,⟨true,[.i .i64,.i .i64,.i .i64,.s,.i .i64,.i .i64,.i .i64,.s,.l 53,.l 9,.l 126],[(0,1),(1,1),(2,1),(3,1),(4,7)],0,152,false⟩),
 (60,⟨true,[.l 9,.b],[(0,1),(1,1)],0,32,false⟩),
 (61,⟨true,[.l 9,.b],[(0,1),(1,1)],0,32,false⟩),
 (86,⟨false,[.l 5],[],0,24,false⟩),
 (89,⟨true,[.s,.i .i64,.b],[(0,1),(1,1),(2,1)],0,32,false⟩),
 (90,⟨true,[.s,.i .i64,.b],[(0,1),(1,1),(2,1)],0,32,true⟩),
 (93,⟨true,[.l 9,.b],[(0,1),(1,1)],0,32,false⟩),
 (94,⟨true,[.l 9,.b],[(0,1),(1,1)],0,32,false⟩),
 (124,⟨false,[.l 147],[],0,24,false⟩),
 (125,⟨true,[.l 3,.l 147],[(0,1),(1,1)],0,48,false⟩),
 (126,⟨true,[.l 3,.l 147],[(0,1),(1,1)],0,48,false⟩),
 (131,⟨false,[.i .u64],[],0,8,false⟩),
 (133,⟨false,[.i .u32],[],0,4,false⟩),
 (146,⟨true,[.i .i64,.i .i64],[(0,1),(1,1)],0,16,false⟩),
 (147,⟨true,[.i .i64,.i .i64],[(0,1),(1,1)],0,16,true⟩),
 (159,⟨false,[.i .i64],[],0,8,false⟩),
 (166,⟨false,[.i .u8],[],0,1,false⟩),
 (172,⟨false,[.i .u64],[],0,8,false⟩),
 (189,⟨true,[.i .u8,.i .u8],[(0,1),(1,1)],0,2,false⟩),
 (190,⟨true,[.i .u8,.i .u8],[(0,1),(1,1)],0,2,false⟩),
 (194,⟨true,[.s],[(0,1)],0,16,false⟩),
 (195,⟨true,[.s],[(0,1)],0,16,false⟩),
 (210,⟨false,[.i .u8],[],0,1,false⟩),
 (211,⟨false,[.i .u8],[],0,1,false⟩),
 (213,⟨false,[.i .i32],[],0,4,false⟩),
 (214,⟨false,[.i .i32],[],0,4,false⟩)]
abbrev T:Tab:=uL tab [(1,[(.l 9,.l [[.s ⟨#[109,105,115,115,105,110,103]⟩],[.s ⟨#[100,117,112,108,105,99,97,116,101]⟩],[.s ⟨#[99,121,99,108,101]⟩],[.s ⟨#[116,121,112,101]⟩],[.s ⟨#[114,97,110,103,101]⟩],[.s ⟨#[108,105,109,105,116]⟩],[.s ⟨#[99,111,108,117,109,110]⟩],[.s ⟨#[115,121,110,116,97,120]⟩]])]),(7,[(.i .u64,.i 1),(.i .u64,.i 10),(.i .u64,.i 100),(.i .u64,.i 1000),(.i .u64,.i 10000),(.i .u64,.i 100000),(.i .u64,.i 1000000),(.i .u64,.i 10000000),(.i .u64,.i 100000000),(.i .u64,.i 1000000000),(.i .u64,.i 10000000000),(.i .u64,.i 100000000000),(.i .u64,.i 1000000000000),(.i .u64,.i 10000000000000),(.i .u64,.i 100000000000000),(.i .u64,.i 1000000000000000),(.i .u64,.i 10000000000000000),(.i .u64,.i 100000000000000000),(.i .u64,.i 1000000000000000000),(.i .u64,.i 10000000000000000000)])] [(0,false),(2,true),(3,true),(4,true)]
theorem ty_2:TyOk Tryz.prog T 2 ⟨false,[.i .i64],[],0,8,false⟩:=TyOk.mkOne (c:=.i .i64) Tryz.underlying2 rfl (by kernel_rfl) rfl rfl (by kernel_rfl)
theorem ty_3:TyOk Tryz.prog T 3 ⟨false,[.i .i64],[],0,8,false⟩:=TyOk.mkOne (c:=.i .i64) Tryz.underlying3 rfl (by kernel_rfl) rfl rfl (by kernel_rfl)
theorem ty_4:TyOk Tryz.prog T 4 ⟨false,[.b],[],0,1,false⟩:=TyOk.mkOne (c:=.b) Tryz.underlying4 rfl (by kernel_rfl) rfl rfl (by kernel_rfl)
theorem ty_5:TyOk Tryz.prog T 5 ⟨false,[.i .u8],[],0,1,false⟩:=TyOk.mkOne (c:=.i .u8) Tryz.underlying5 rfl (by kernel_rfl) rfl rfl (by kernel_rfl)
theorem ty_6:TyOk Tryz.prog T 6 ⟨false,[.i .u8],[],0,1,false⟩:=TyOk.mkOne (c:=.i .u8) Tryz.underlying6 rfl (by kernel_rfl) rfl rfl (by kernel_rfl)
theorem ty_7:TyOk Tryz.prog T 7 ⟨true,[.i .i64,.i .i64,.b,.i .u8],[(0,1),(1,1),(2,1),(3,1)],0,24,false⟩:=TyOk.mkAgg (by kernel_rfl) rfl (by kernel_rfl) (show Tryz.prog.underlying 7=some (.struct _) from Tryz.underlying7) (by kernel_rfl) (by kernel_rfl) (fun h=>by cases h)
theorem ty_8:TyOk Tryz.prog T 8 ⟨true,[.i .i64,.i .i64,.b,.i .u8],[(0,1),(1,1),(2,1),(3,1)],0,24,false⟩:=TyOk.mkAgg (by kernel_rfl) rfl (by kernel_rfl) (show Tryz.prog.underlying 8=some (.struct _) from Tryz.underlying8) (by kernel_rfl) (by kernel_rfl) (fun h=>by cases h)
theorem ty_9:TyOk Tryz.prog T 9 ⟨false,[.s],[],0,16,false⟩:=TyOk.mkOne (c:=.s) Tryz.underlying9 rfl (by kernel_rfl) rfl rfl (by kernel_rfl)
theorem ty_10:TyOk Tryz.prog T 10 ⟨false,[.s],[],0,16,false⟩:=TyOk.mkOne (c:=.s) Tryz.underlying10 rfl (by kernel_rfl) rfl rfl (by kernel_rfl)
theorem ty_11:TyOk Tryz.prog T 11 ⟨false,[.s],[],0,16,false⟩:=TyOk.mkOne (c:=.s) Tryz.underlying11 rfl (by kernel_rfl) rfl rfl (by kernel_rfl)
theorem ty_12:TyOk Tryz.prog T 12 ⟨false,[.i .u64],[],0,8,false⟩:=TyOk.mkOne (c:=.i .u64) Tryz.underlying12 rfl (by kernel_rfl) rfl rfl (by kernel_rfl)
theorem ty_13:TyOk Tryz.prog T 13 ⟨true,[.s,.i .u64],[(0,1),(1,1)],0,24,false⟩:=TyOk.mkAgg (by kernel_rfl) rfl (by kernel_rfl) (show Tryz.prog.underlying 13=some (.struct _) from Tryz.underlying13) (by kernel_rfl) (by kernel_rfl) (fun h=>by cases h)
theorem ty_14:TyOk Tryz.prog T 14 ⟨true,[.s,.i .u64],[(0,1),(1,1)],0,24,false⟩:=TyOk.mkAgg (by kernel_rfl) rfl (by kernel_rfl) (show Tryz.prog.underlying 14=some (.struct _) from Tryz.underlying14) (by kernel_rfl) (by kernel_rfl) (fun h=>by cases h)
theorem ty_21:TyOk Tryz.prog T 21 ⟨false,[.i .i32],[],0,4,false⟩:=TyOk.mkOne (c:=.i .i32) Tryz.underlying21 rfl (by kernel_rfl) rfl rfl (by kernel_rfl)
theorem ty_22:TyOk Tryz.prog T 22 ⟨false,[.l 3],[],0,24,false⟩:=TyOk.mkOne (c:=.l 3) Tryz.underlying22 rfl (by kernel_rfl) rfl rfl (by kernel_rfl)
theorem ty_23:TyOk Tryz.prog T 23 ⟨true,[.i .i64,.i .i64,.i .i64,.s,.s,.i .i64],[(0,1),(1,1),(2,1),(3,1),(4,1),(5,1)],0,64,false⟩:=TyOk.mkAgg (by kernel_rfl) rfl (by kernel_rfl) (show Tryz.prog.underlying 23=some (.struct _) from Tryz.underlying23) (by kernel_rfl) (by kernel_rfl) (fun h=>by cases h)
theorem eq_24:kP Tryz.prog 24 [.i .i64,.i .i64,.i .i64,.s,.s,.i .i64]:=by
 refine ⟨by kernel_rfl,fun w a b ha hb=>?_⟩
 match a,ha,b,hb with
 | [.i x0, .i x1,.i x2,.s x3,.s x4,.i x5],_,[.i y0,.i y1,.i y2,.s y3,.s y4,.i y5],_ =>
   have u3:=Tryz.underlying3
   have a3:=Tryz.isAgg3
   have z3:=Tryz.sizeOf3
   have u9:=Tryz.underlying9
   have a9:=Tryz.isAgg9
   have z9:=Tryz.sizeOf9
   have hS:Tryz.prog.underlying 24=some (.struct (Tryz.prog.fieldsOf 24)):=by kernel_rfl
   have hp:Tryz.prog.stoodInHeld 24=false:=by kernel_rfl
   simp only [eG,valOf]
   rw [show (10000:Nat)=9999+1 from rfl,run_equalIn_agg w 9999 24 _ _ hS hp]
   simp only [Program.fieldsOf,Tryz.underlying24,eqDs,eqD]
   go_simp
   by_cases h0:x0=y0
   ·
    by_cases h1:x1=y1
    ·
     by_cases h2:x2=y2
     ·
      by_cases h3:x3.toList=y3.toList
      ·
       by_cases h4:x4.toList=y4.toList
       ·
        by_cases h5:x5=y5
        · simp [h0,h1,h2,h3,h4,h5]
        · simp [h0,h1,h2,h3,h4,h5]
       · simp [h0,h1,h2,h3,h4]
      · simp [h0,h1,h2,h3]
     · simp [h0,h1,h2]
    · simp [h0,h1]
   · simp [h0]
theorem ty_24:TyOk Tryz.prog T 24 ⟨true,[.i .i64,.i .i64,.i .i64,.s,.s,.i .i64],[(0,1),(1,1),(2,1),(3,1),(4,1),(5,1)],0,64,true⟩:=TyOk.mkAgg (by kernel_rfl) rfl (by kernel_rfl) (show Tryz.prog.underlying 24=some (.struct _) from Tryz.underlying24) (by kernel_rfl) (by kernel_rfl) (fun _=>eq_24)
theorem ty_25:TyOk Tryz.prog T 25 ⟨true,[.i .i64,.i .i64,.i .i64,.i .i64,.i .i64,.s,.s,.i .i64],[(0,1),(1,1),(2,6)],0,80,false⟩:=TyOk.mkAgg (by kernel_rfl) rfl (by kernel_rfl) (show Tryz.prog.underlying 25=some (.struct _) from Tryz.underlying25) (by kernel_rfl) (by kernel_rfl) (fun h=>by cases h)
theorem eq_26:kP Tryz.prog 26 [.i .i64,.i .i64,.i .i64,.i .i64,.i .i64,.s,.s,.i .i64]:=by
 refine ⟨by kernel_rfl,fun w a b ha hb=>?_⟩
 match a,ha,b,hb with
 | [.i x0, .i x1, .i x2,.i x3,.i x4,.s x5,.s x6,.i x7],_,[.i y0,.i y1,.i y2,.i y3,.i y4,.s y5,.s y6,.i y7],_ =>
   have u3:=Tryz.underlying3
   have a3:=Tryz.isAgg3
   have z3:=Tryz.sizeOf3
   have u9:=Tryz.underlying9
   have a9:=Tryz.isAgg9
   have z9:=Tryz.sizeOf9
   have u24:=Tryz.underlying24
   have a24:=Tryz.isAgg24
   have z24:=Tryz.sizeOf24
   have hS:Tryz.prog.underlying 26=some (.struct (Tryz.prog.fieldsOf 26)):=by kernel_rfl
   have hp:Tryz.prog.stoodInHeld 26=false:=by kernel_rfl
   have hS24:Tryz.prog.underlying 24=some (.struct (Tryz.prog.fieldsOf 24)):=by kernel_rfl
   have hp24:Tryz.prog.stoodInHeld 24=false:=by kernel_rfl
   simp only [eG,valOf]
   rw [show (10000:Nat)=9999+1 from rfl,run_equalIn_agg w 9999 26 _ _ hS hp]
   simp only [Program.fieldsOf,Tryz.underlying26,eqDs,eqD]
   go_simp
   by_cases h0:x0=y0
   ·
    by_cases h1:x1=y1
    ·
     by_cases h2:x2=y2
     ·
      by_cases h3:x3=y3
      ·
       by_cases h4:x4=y4
       ·
        by_cases h5:x5.toList=y5.toList
        ·
         by_cases h6:x6.toList=y6.toList
         ·
          by_cases h7:x7=y7
          · simp [h0,h1,h2,h3,h4,h5,h6,h7]
          · simp [h0,h1,h2,h3,h4,h5,h6,h7]
         · simp [h0,h1,h2,h3,h4,h5,h6]
        · simp [h0,h1,h2,h3,h4,h5]
       · simp [h0,h1,h2,h3,h4]
      · simp [h0,h1,h2,h3]
     · simp [h0,h1,h2]
    · simp [h0,h1]
   · simp [h0]
theorem ty_26:TyOk Tryz.prog T 26 ⟨true,[.i .i64,.i .i64,.i .i64,.i .i64,.i .i64,.s,.s,.i .i64],[(0,1),(1,1),(2,6)],0,80,true⟩:=TyOk.mkAgg (by kernel_rfl) rfl (by kernel_rfl) (show Tryz.prog.underlying 26=some (.struct _) from Tryz.underlying26) (by kernel_rfl) (by kernel_rfl) (fun _=>eq_26)
theorem ty_27:TyOk Tryz.prog T 27 ⟨false,[.l 55],[],0,24,false⟩:=TyOk.mkOne (c:=.l 55) Tryz.underlying27 rfl (by kernel_rfl) rfl rfl (by kernel_rfl)
theorem ty_28:TyOk Tryz.prog T 28 ⟨true,[.i .i64,.i .i64,.i .i64,.l 3,.i .i64,.i .i64,.i .i64,.i .i64,.i .i64,.s,.s,.i .i64,.s,.s,.i .i64,.i .i64,.l 55],[(0,1),(1,1),(2,1),(3,1),(4,8),(12,1),(13,1),(14,1),(15,1),(16,1)],0,200,false⟩:=TyOk.mkAgg (by kernel_rfl) rfl (by kernel_rfl) (show Tryz.prog.underlying 28=some (.struct _) from Tryz.underlying28) (by kernel_rfl) (by kernel_rfl) (fun h=>by cases h)
theorem ty_29:TyOk Tryz.prog T 29 ⟨true,[.i .i64,.i .i64,.i .i64,.l 3,.i .i64,.i .i64,.i .i64,.i .i64,.i .i64,.s,.s,.i .i64,.s,.s,.i .i64,.i .i64,.l 55],[(0,1),(1,1),(2,1),(3,1),(4,8),(12,1),(13,1),(14,1),(15,1),(16,1)],0,200,false⟩:=TyOk.mkAgg (by kernel_rfl) rfl (by kernel_rfl) (show Tryz.prog.underlying 29=some (.struct _) from Tryz.underlying29) (by kernel_rfl) (by kernel_rfl) (fun h=>by cases h)
theorem ty_38:TyOk Tryz.prog T 38 ⟨false,[.l 29],[],0,24,false⟩:=TyOk.mkOne (c:=.l 29) Tryz.underlying38 rfl (by kernel_rfl) rfl rfl (by kernel_rfl)
theorem ty_44:TyOk Tryz.prog T 44 ⟨false,[.l 9],[],0,24,false⟩:=TyOk.mkOne (c:=.l 9) Tryz.underlying44 rfl (by kernel_rfl) rfl rfl (by kernel_rfl)
theorem ty_46:TyOk Tryz.prog T 46 ⟨true,[.l 9,.i .i64],[(0,1),(1,1)],0,32,false⟩:=TyOk.mkAgg (by kernel_rfl) rfl (by kernel_rfl) (show Tryz.prog.underlying 46=some (.struct _) from Tryz.underlying46) (by kernel_rfl) (by kernel_rfl) (fun h=>by cases h)
theorem ty_47:TyOk Tryz.prog T 47 ⟨true,[.l 9,.i .i64],[(0,1),(1,1)],0,32,false⟩:=TyOk.mkAgg (by kernel_rfl) rfl (by kernel_rfl) (show Tryz.prog.underlying 47=some (.struct _) from Tryz.underlying47) (by kernel_rfl) (by kernel_rfl) (fun h=>by cases h)
theorem ty_50:TyOk Tryz.prog T 50 ⟨false,[.l 53],[],0,24,false⟩:=TyOk.mkOne (c:=.l 53) Tryz.underlying50 rfl (by kernel_rfl) rfl rfl (by kernel_rfl)
theorem ty_51:TyOk Tryz.prog T 51 ⟨false,[.l 126],[],0,24,false⟩:=TyOk.mkOne (c:=.l 126) Tryz.underlying51 rfl (by kernel_rfl) rfl rfl (by kernel_rfl)
theorem ty_52:TyOk Tryz.prog T 52 ⟨true,[.i .i64,.i .i64,.i .i64,.s,.l 53,.l 9,.l 126],[(0,1),(1,1),(2,1),(3,1),(4,1),(5,1),(6,1)],0,112,false⟩:=TyOk.mkAgg (by kernel_rfl) rfl (by kernel_rfl) (show Tryz.prog.underlying 52=some (.struct _) from Tryz.underlying52) (by kernel_rfl) (by kernel_rfl) (fun h=>by cases h)
theorem ty_53:TyOk Tryz.prog T 53 ⟨true,[.i .i64,.i .i64,.i .i64,.s,.l 53,.l 9,.l 126],[(0,1),(1,1),(2,1),(3,1),(4,1),(5,1),(6,1)],0,112,false⟩:=TyOk.mkAgg (by kernel_rfl) rfl (by kernel_rfl) (show Tryz.prog.underlying 53=some (.struct _) from Tryz.underlying53) (by kernel_rfl) (by kernel_rfl) (fun h=>by cases h)
theorem ty_54:TyOk Tryz.prog T 54 ⟨true,[.i .i64,.i .i64,.i .i64,.s,.i .i64,.i .i64,.i .i64,.s,.l 53,.l 9,.l 126],[(0,1),(1,1),(2,1),(3,1),(4,7)],0,152,false⟩:=TyOk.mkAgg (by kernel_rfl) rfl (by kernel_rfl) (show Tryz.prog.underlying 54=some (.struct _) from Tryz.underlying54) (by kernel_rfl) (by kernel_rfl) (fun h=>by cases h)
theorem ty_55:TyOk Tryz.prog T 55 ⟨true,[.i .i64,.i .i64,.i .i64,.s,.i .i64,.i .i64,.i .i64,.s,.l 53,.l 9,.l 126],[(0,1),(1,1),(2,1),(3,1),(4,7)],0,152,false⟩:=TyOk.mkAgg (by kernel_rfl) rfl (by kernel_rfl) (show Tryz.prog.underlying 55=some (.struct _) from Tryz.underlying55) (by kernel_rfl) (by kernel_rfl) (fun h=>by cases h)
theorem ty_60:TyOk Tryz.prog T 60 ⟨true,[.l 9,.b],[(0,1),(1,1)],0,32,false⟩:=TyOk.mkAgg (by kernel_rfl) rfl (by kernel_rfl) (show Tryz.prog.underlying 60=some (.struct _) from Tryz.underlying60) (by kernel_rfl) (by kernel_rfl) (fun h=>by cases h)
theorem ty_61:TyOk Tryz.prog T 61 ⟨true,[.l 9,.b],[(0,1),(1,1)],0,32,false⟩:=TyOk.mkAgg (by kernel_rfl) rfl (by kernel_rfl) (show Tryz.prog.underlying 61=some (.struct _) from Tryz.underlying61) (by kernel_rfl) (by kernel_rfl) (fun h=>by cases h)
theorem ty_86:TyOk Tryz.prog T 86 ⟨false,[.l 5],[],0,24,false⟩:=TyOk.mkOne (c:=.l 5) Tryz.underlying86 rfl (by kernel_rfl) rfl rfl (by kernel_rfl)
theorem ty_89:TyOk Tryz.prog T 89 ⟨true,[.s,.i .i64,.b],[(0,1),(1,1),(2,1)],0,32,false⟩:=TyOk.mkAgg (by kernel_rfl) rfl (by kernel_rfl) (show Tryz.prog.underlying 89=some (.struct _) from Tryz.underlying89) (by kernel_rfl) (by kernel_rfl) (fun h=>by cases h)
theorem eq_90:kP Tryz.prog 90 [.s,.i .i64,.b]:=by
 refine ⟨by kernel_rfl,fun w a b ha hb=>?_⟩
 match a,ha,b,hb with
 | [.s x0,.i x1,.b x2],_,[.s y0,.i y1,.b y2],_ =>
   have u3:=Tryz.underlying3
   have a3:=Tryz.isAgg3
   have z3:=Tryz.sizeOf3
   have u4:=Tryz.underlying4
   have a4:=Tryz.isAgg4
   have z4:=Tryz.sizeOf4
   have u9:=Tryz.underlying9
   have a9:=Tryz.isAgg9
   have z9:=Tryz.sizeOf9
   have hS:Tryz.prog.underlying 90=some (.struct (Tryz.prog.fieldsOf 90)):=by kernel_rfl
   have hp:Tryz.prog.stoodInHeld 90=false:=by kernel_rfl
   simp only [eG,valOf]
   rw [show (10000:Nat)=9999+1 from rfl,run_equalIn_agg w 9999 90 _ _ hS hp]
   simp only [Program.fieldsOf,Tryz.underlying90,eqDs,eqD]
   go_simp
   by_cases h0:x0.toList=y0.toList
   ·
    by_cases h1:x1=y1
    ·
     by_cases h2:x2=y2
     · simp [h0,h1,h2]
     · simp [h0,h1,h2]
    · simp [h0,h1]
   · simp [h0]
theorem ty_90:TyOk Tryz.prog T 90 ⟨true,[.s,.i .i64,.b],[(0,1),(1,1),(2,1)],0,32,true⟩:=TyOk.mkAgg (by kernel_rfl) rfl (by kernel_rfl) (show Tryz.prog.underlying 90=some (.struct _) from Tryz.underlying90) (by kernel_rfl) (by kernel_rfl) (fun _=>eq_90)
theorem ty_93:TyOk Tryz.prog T 93 ⟨true,[.l 9,.b],[(0,1),(1,1)],0,32,false⟩:=TyOk.mkAgg (by kernel_rfl) rfl (by kernel_rfl) (show Tryz.prog.underlying 93=some (.struct _) from Tryz.underlying93) (by kernel_rfl) (by kernel_rfl) (fun h=>by cases h)
theorem ty_94:TyOk Tryz.prog T 94 ⟨true,[.l 9,.b],[(0,1),(1,1)],0,32,false⟩:=TyOk.mkAgg (by kernel_rfl) rfl (by kernel_rfl) (show Tryz.prog.underlying 94=some (.struct _) from Tryz.underlying94) (by kernel_rfl) (by kernel_rfl) (fun h=>by cases h)
theorem zE:TyOk Tryz.prog T 124 ⟨false,[.l 147],[],0,24,false⟩:=TyOk.mkOne (c:=.l 147) Tryz.underlying124 rfl (by kernel_rfl) rfl rfl (by kernel_rfl)
theorem zD:TyOk Tryz.prog T 125 ⟨true,[.l 3,.l 147],[(0,1),(1,1)],0,48,false⟩:=TyOk.mkAgg (by kernel_rfl) rfl (by kernel_rfl) (show Tryz.prog.underlying 125=some (.struct _) from Tryz.underlying125) (by kernel_rfl) (by kernel_rfl) (fun h=>by cases h)
theorem zC:TyOk Tryz.prog T 126 ⟨true,[.l 3,.l 147],[(0,1),(1,1)],0,48,false⟩:=TyOk.mkAgg (by kernel_rfl) rfl (by kernel_rfl) (show Tryz.prog.underlying 126=some (.struct _) from Tryz.underlying126) (by kernel_rfl) (by kernel_rfl) (fun h=>by cases h)
theorem zB:TyOk Tryz.prog T 131 ⟨false,[.i .u64],[],0,8,false⟩:=TyOk.mkOne (c:=.i .u64) Tryz.underlying131 rfl (by kernel_rfl) rfl rfl (by kernel_rfl)
theorem zA:TyOk Tryz.prog T 133 ⟨false,[.i .u32],[],0,4,false⟩:=TyOk.mkOne (c:=.i .u32) Tryz.underlying133 rfl (by kernel_rfl) rfl rfl (by kernel_rfl)
theorem zz:TyOk Tryz.prog T 146 ⟨true,[.i .i64,.i .i64],[(0,1),(1,1)],0,16,false⟩:=TyOk.mkAgg (by kernel_rfl) rfl (by kernel_rfl) (show Tryz.prog.underlying 146=some (.struct _) from Tryz.underlying146) (by kernel_rfl) (by kernel_rfl) (fun h=>by cases h)
theorem jbp:kP Tryz.prog 147 [.i .i64,.i .i64]:=by
 refine ⟨by kernel_rfl,fun w a b ha hb=>?_⟩
 match a,ha,b,hb with
 | [.i x0,.i x1],_,[.i y0,.i y1],_ =>
   have u3:=Tryz.underlying3
   have a3:=Tryz.isAgg3
   have z3:=Tryz.sizeOf3
   have hS:Tryz.prog.underlying 147=some (.struct (Tryz.prog.fieldsOf 147)):=by kernel_rfl
   have hp:Tryz.prog.stoodInHeld 147=false:=by kernel_rfl
   simp only [eG,valOf]
   rw [show (10000:Nat)=9999+1 from rfl,run_equalIn_agg w 9999 147 _ _ hS hp]
   simp only [Program.fieldsOf,Tryz.underlying147,eqDs,eqD]
   go_simp
   by_cases h0:x0=y0
   ·
    by_cases h1:x1=y1
    · simp [h0,h1]
    · simp [h0,h1]
   · simp [h0]
theorem zy:TyOk Tryz.prog T 147 ⟨true,[.i .i64,.i .i64],[(0,1),(1,1)],0,16,true⟩:=TyOk.mkAgg (by kernel_rfl) rfl (by kernel_rfl) (show Tryz.prog.underlying 147=some (.struct _) from Tryz.underlying147) (by kernel_rfl) (by kernel_rfl) (fun _=>jbp)
theorem zx:TyOk Tryz.prog T 159 ⟨false,[.i .i64],[],0,8,false⟩:=TyOk.mkOne (c:=.i .i64) Tryz.underlying159 rfl (by kernel_rfl) rfl rfl (by kernel_rfl)
theorem zw:TyOk Tryz.prog T 166 ⟨false,[.i .u8],[],0,1,false⟩:=TyOk.mkOne (c:=.i .u8) Tryz.underlying166 rfl (by kernel_rfl) rfl rfl (by kernel_rfl)
theorem zv:TyOk Tryz.prog T 172 ⟨false,[.i .u64],[],0,8,false⟩:=TyOk.mkOne (c:=.i .u64) Tryz.underlying172 rfl (by kernel_rfl) rfl rfl (by kernel_rfl)
theorem zu:TyOk Tryz.prog T 189 ⟨true,[.i .u8,.i .u8],[(0,1),(1,1)],0,2,false⟩:=TyOk.mkAgg (by kernel_rfl) rfl (by kernel_rfl) (show Tryz.prog.underlying 189=some (.struct _) from Tryz.underlying189) (by kernel_rfl) (by kernel_rfl) (fun h=>by cases h)
theorem zt:TyOk Tryz.prog T 190 ⟨true,[.i .u8,.i .u8],[(0,1),(1,1)],0,2,false⟩:=TyOk.mkAgg (by kernel_rfl) rfl (by kernel_rfl) (show Tryz.prog.underlying 190=some (.struct _) from Tryz.underlying190) (by kernel_rfl) (by kernel_rfl) (fun h=>by cases h)
theorem zq:TyOk Tryz.prog T 194 ⟨true,[.s],[(0,1)],0,16,false⟩:=TyOk.mkAgg (by kernel_rfl) rfl (by kernel_rfl) (show Tryz.prog.underlying 194=some (.struct _) from Tryz.underlying194) (by kernel_rfl) (by kernel_rfl) (fun h=>by cases h)
theorem zp:TyOk Tryz.prog T 195 ⟨true,[.s],[(0,1)],0,16,false⟩:=TyOk.mkAgg (by kernel_rfl) rfl (by kernel_rfl) (show Tryz.prog.underlying 195=some (.struct _) from Tryz.underlying195) (by kernel_rfl) (by kernel_rfl) (fun h=>by cases h)
theorem zo:TyOk Tryz.prog T 210 ⟨false,[.i .u8],[],0,1,false⟩:=TyOk.mkOne (c:=.i .u8) Tryz.underlying210 rfl (by kernel_rfl) rfl rfl (by kernel_rfl)
theorem zn:TyOk Tryz.prog T 211 ⟨false,[.i .u8],[],0,1,false⟩:=TyOk.mkOne (c:=.i .u8) Tryz.underlying211 rfl (by kernel_rfl) rfl rfl (by kernel_rfl)
theorem zm:TyOk Tryz.prog T 213 ⟨false,[.i .i32],[],0,4,false⟩:=TyOk.mkOne (c:=.i .i32) Tryz.underlying213 rfl (by kernel_rfl) rfl rfl (by kernel_rfl)
theorem zl:TyOk Tryz.prog T 214 ⟨false,[.i .i32],[],0,4,false⟩:=TyOk.mkOne (c:=.i .i32) Tryz.underlying214 rfl (by kernel_rfl) rfl rfl (by kernel_rfl)
theorem tabT:TabOk Tryz.prog T:=tabOk fun p hp=>by
 simp only [tab,jbW,jbS,or_false] at hp
 rcases hp with rfl|rfl|rfl|rfl|rfl|rfl|rfl|rfl|rfl|rfl|rfl|rfl|rfl|rfl|rfl|rfl|rfl|rfl|rfl|rfl|rfl|rfl|rfl|rfl|rfl|rfl|rfl|rfl|rfl|rfl|rfl|rfl|rfl|rfl|rfl|rfl|rfl|rfl|rfl|rfl|rfl|rfl|rfl|rfl|rfl|rfl|rfl|rfl|rfl|rfl|rfl|rfl|rfl|rfl|rfl|rfl|rfl
 · exact ty_2
 · exact ty_3
 · exact ty_4
 · exact ty_5
 · exact ty_6
 · exact ty_7
 · exact ty_8
 · exact ty_9
 · exact ty_10
 · exact ty_11
 · exact ty_12
 · exact ty_13
 · exact ty_14
 · exact ty_21
 · exact ty_22
 · exact ty_23
 · exact ty_24
 · exact ty_25
 · exact ty_26
 · exact ty_27
 · exact ty_28
 · exact ty_29
 · exact ty_38
 · exact ty_44
 · exact ty_46
 · exact ty_47
 · exact ty_50
 · exact ty_51
 · exact ty_52
 · exact ty_53
 · exact ty_54
 · exact ty_55
 · exact ty_60
 · exact ty_61
 · exact ty_86
 · exact ty_89
 · exact ty_90
 · exact ty_93
 · exact ty_94
 · exact zE
 · exact zD
 · exact zC
 · exact zB
 · exact zA
 · exact zz
 · exact zy
 · exact zx
 · exact zw
 · exact zv
 · exact zu
 · exact zt
 · exact zq
 · exact zp
 · exact zo
 · exact zn
 · exact zm
 · exact zl
theorem mixed:Tryz.prog.follows .mixedOrders=true:=by kernel_rfl
noncomputable instance:DecidableEq D:=fun a b=>Classical.propDecidable (a=b)
abbrev argS (e:TypeId) (rows:List (List D)):SV:=.val false [.sl false e rows]
def rowC (cts:List CT) (row:List D):List CV:=cts.zipIdx.map fun (ct,j)=>ofD ct (row.getD j default)
abbrev argG (cts:List CT) (row:List D):SV:=.val true (rowC cts row)
def CV.d:CV→D
 | .i _ n=>.i n
 | .b x=>.b x
 | .s x=>.s x
 | .sl _ _ rows=>.l rows
 | _=>.i 0
def csD (cs:List CV):List D:=cs.map CV.d
def WfRow (T:Tab) (cts:List CT) (row:List D):Prop:=row.length=cts.length∧∀ (j:Nat) ct d,cts[j]? = some ct→row[j]? = some d→WfD T ct d
theorem WfD.row {e:TypeId} {te:Ty} {rows:List (List D)} (h:WfD T (.l e) (.l rows)) (he:T e=some te) {k:Nat} (hk:k < rows.length):WfRow T te.cts (rows.getD k []):=by
 have hr:rows[k]? = some (rows.getD k []):=by simp [jbT,jbN hk]
 cases h with
 | nil=>simp at hk
 | sl _ ty _ h1 h2 h3 h4 =>
   rw [he] at h1
   obtain rfl:=jbR h1
   exact ⟨h3 k _ hr,fun j ct d a b=>h4 k j ct d _ hr a b⟩
theorem WfD.len {e:TypeId} {rows:List (List D)} (h:WfD T (.l e) (.l rows)):rows.length≤maxLen:=by
 cases h with
 | nil=>exact jbP _
 | sl _ ty _ h1 h2 h3 h4=>exact h2
theorem WfD.int' {k:IntKind} {d:D} (h:WfD T (.i k) d):∃ n,d=.i n∧inK k n:=by cases h with|int _ n h=>exact ⟨n,rfl,h⟩
theorem WfD.str' {d:D} (h:WfD T .s d):∃ x,d=.s x∧x.size≤maxLen:=by cases h with|str x h=>exact ⟨x,rfl,h⟩
theorem WfD.sl' {e:TypeId} {d:D} (h:WfD T (.l e) d):∃ rows,d=.l rows∧WfD T (.l e) (.l rows):=by
 cases h with
 | nil=>exact ⟨[],rfl,.nil e⟩
 | sl _ ty rows h1 h2 h3 h4=>exact ⟨rows,rfl,.sl e ty rows h1 h2 h3 h4⟩
theorem WfRow.nil' {row:List D} (h:WfRow T [] row):row=[]:=jcl.1 h.1
theorem WfRow.cons' {ct:CT} {cts:List CT} {row:List D} (h:WfRow T (ct :: cts) row):∃ d r,row=d :: r∧WfD T ct d∧WfRow T cts r:=by
 cases row with
 | nil=>exact absurd h.1 (by simp)
 | cons d r=>exact ⟨d,r,rfl,h.2 0 ct d rfl rfl,by simpa using h.1,fun j ct' d' a b=>h.2 (j+1) ct' d' (by simpa using a) (by simpa using b)⟩
noncomputable def eqS (e:TypeId):FSpec where
 pre args:=∃ a b:List (List D),args=[argS e a,argS e b]
 res args:=match args with
  | [.val false [.sl _ _ a],.val false [.sl _ _ b]]=>.val false [.b (decide (a=b))]
  | _=>.none
noncomputable def eqG (cts:List CT):FSpec where
 pre args:=∃ a b:List D,WfRow T cts a∧WfRow T cts b∧args=[argG cts a,argG cts b]
 res args:=match args with
  | [.val true a,.val true b]=>.val false [.b (decide (csD a=csD b))]
  | _=>.none
theorem ki {a b:List (List D)} (h:((a.length:Int) != (b.length:Int))=true):a ≠ b:=by
 intro he;subst he;simp at h
theorem kw {a b:List (List D)} (h:((a.length:Int) != (b.length:Int))=false):a.length=b.length:=by
 have h' : (a.length:Int)=(b.length:Int):=by simpa using h
 omega
theorem b9 {a b:List (List D)} {i:Int} (hl:a.length=b.length) (h0:0≤i) (hi:i≤a.length) (hn:decide (i < (a.length:Int))=false) (h:a.take i.toNat=b.take i.toNat):a=b:=by
 have hn' : ¬ i < (a.length:Int):=by simpa using hn
 have:i.toNat=a.length:=by omega
 rw [this,jcH,hl,jcH] at h
 exact h
theorem gG {a:List (List D)} {i:Int} (h0:0≤i) (hi:i < a.length):a[i.toNat]? = some (a.getD i.toNat []):=by
 have:i.toNat < a.length:=by omega
 simp [jbT,jbN this]
theorem cr {a b:List (List D)} {i:Int} (h0:0≤i) (hi:i < a.length) (hl:a.length=b.length) (h:a.take i.toNat=b.take i.toNat) (he:a.getD i.toNat []=b.getD i.toNat []):a.take (i+1).toNat=b.take (i+1).toNat:=by
 have e:(i+1).toNat=i.toNat+1:=by omega
 rw [e,jcN,jcN,h,gG h0 hi,gG h0 (by omega),he]
theorem aC {i:Int} {n:Nat} (h0:0≤i) (hi:i < n) (hn:n≤maxLen):IntKind.i64.wrap (i+1)=i+1:=by
 simp only [maxLen] at hn
 rw [IntKind.wrap_i64];omega
theorem bW {P:Prop} [Decidable P] (h:¬ P):[CV.b false]=[CV.b (decide P)]:=by rw [decide_eq_false h]
theorem ck {P:Prop} [Decidable P] (h:P):[CV.b true]=[CV.b (decide P)]:=by rw [decide_eq_true h]
theorem WfRow.rows {cts:List CT} {r:List D} (h:WfRow T cts r) {j:Nat} {e:TypeId} (hj:cts[j]? = some (.l e)):WfD T (.l e) (.l (r.getD j default).rows):=by
 have hl:j < r.length:=by rw [h.1];exact (jbY.1 hj).1
 have e1:r[j]? = some (r.getD j default):=by simp [jbT,jbN hl]
 obtain ⟨rows,h1,h2⟩:=(h.2 j _ _ hj e1).sl'
 rw [h1]
 exact h2
def sub (r:List D) (k n:Nat):List D:=(List.range n).map fun j=>r.getD (k+j) default
theorem WfRow.sub {cts:List CT} {r:List D} (h:WfRow T cts r) (k n:Nat) (hk:k+n≤cts.length):WfRow T ((cts.drop k).take n) (sub r k n):=by
 refine ⟨by simp [Ab.sub];omega,fun j ct d h1 h2=>?_⟩
 rw [jcK,jcY] at h1
 split at h1
 · rename_i hj
   have e:(Ab.sub r k n)[j]? = some (r.getD (k+j) default):=by simp [Ab.sub,hj]
   rw [e] at h2
   have hl:k+j < r.length:=by rw [h.1];omega
   refine h.2 (k+j) ct d h1 ?_
   rw [← jbR h2]
   simp [jbT,jbN hl]
 · cases h1
theorem d_ofD {ct:CT} {d:D} (h:WfD T ct d):(ofD ct d).d=d:=by cases h <;> rfl
theorem au {cts:List CT} {r:List D} (h:WfRow T cts r):csD (rowC cts r)=r:=by
 refine List.ext_getElem (by simp [csD,rowC,h.1]) fun j h1 h2=>?_
 have hj:j < cts.length:=by rw [← h.1];exact h2
 have:=d_ofD (h.2 j cts[j] r[j] (jbN hj) (jbN h2))
 simp [csD,rowC,jbT,jbN h2,this]
theorem du {cts:List CT} {r s:List D} (hr:WfRow T cts r) (hs:WfRow T cts s) (h:csD (rowC cts r)=csD (rowC cts s)):r=s:=by rwa [au hr,au hs] at h
theorem aS (x y:ByteArray):(x.toList=y.toList)=(x=y):=by
 refine propext ⟨fun h=>?_,fun h=>by rw [h]⟩
 rw [ByteArray.toList_eq,ByteArray.toList_eq] at h
 exact jda (Array.toList_inj.1 h)
noncomputable def eqSn (e:TypeId) (n:Nat):FSpec where
 pre args:=∃ a b:List (List D),SizeOf.sizeOf a < n∧args=[argS e a,argS e b]
 res:=(eqS e).res
noncomputable def eqGn (cts:List CT) (n:Nat):FSpec where
 pre args:=∃ a b:List D,WfRow T cts a∧WfRow T cts b∧SizeOf.sizeOf a < n∧args=[argG cts a,argG cts b]
 res:=(eqG cts).res
theorem FOk.lift {P:Program} {f:FuncId} {s:Nat→FSpec} {s' : FSpec} (h:∀ n,FOk P T f (s n)) (hs:∀ args,s'.pre args→∃ n,(s n).pre args) (hr:∀ n,(s n).res=s'.res)
 (hb:∀ n,(s n).bx=s'.bx:=by intro n;rfl) (hu:∀ n,(s n).upd=s'.upd:=by intro n;rfl) (hq:∀ n,(s n).nb=s'.nb:=by intro n;rfl):FOk P T f s' := by
 refine ⟨(h 0).1,fun hbx hnb w X b ob cs args vals h1 h2 h3 h4 h5 h6 h7 hgl hpre=>?_,fun hbx w X args vals hX hargs hgl hpre=>?_,fun hbx hnb w X args vals hX hargs hpre=>?_⟩
 · obtain ⟨n,hn⟩:=hs _ hpre
   have:=(h n).okb ((hb n).trans hbx) ((hq n).trans hnb) w X b ob cs args vals h1 h2 h3 h4 h5 h6 h7 hgl hn
   rwa [hr n,hu n] at this
 · obtain ⟨n,hn⟩:=hs args hpre
   have:=(h n).ok ((hb n).trans hbx) w X args vals hX hargs hgl hn
   rwa [hr n] at this
 · obtain ⟨n,hn⟩:=hs args hpre
   have:=(h n).okn ((hb n).trans hbx) ((hq n).trans hnb) w X args vals hX hargs hn
   rwa [hu n] at this
theorem cj {r:List D} {j:Nat} (h:j < r.length):SizeOf.sizeOf (r.getD j default).rows < SizeOf.sizeOf r:=by
 have h1:r.getD j default ∈ r:=by simp [jbT,jbN h]
 have h2:=List.sizeOf_lt_of_mem h1
 have h3:SizeOf.sizeOf (r.getD j default).rows≤SizeOf.sizeOf (r.getD j default):=by
  cases r.getD j default <;> simp [D.rows]
 omega
theorem cP {a:List (List D)} {k:Nat} (h:k < a.length):SizeOf.sizeOf (a.getD k []) < SizeOf.sizeOf a:=by
 have h1:a.getD k [] ∈ a:=by simp [jbT,jbN h]
 exact List.sizeOf_lt_of_mem h1
def envL:List (FuncId × FSpec)→FuncId→Option FSpec
 | [],_=>none
 | (g,s) :: l,f=>if f=g then some s else envL l f
theorem af {P:Program}:eu P T (envL []):=fun f s h=>by cases h
theorem ac {P:Program} {g:FuncId} {s:FSpec} {l:List (FuncId × FSpec)} (h:FOk P T g s) (hl:eu P T (envL l)):eu P T (envL ((g,s) :: l)):=fun f s' hf=>by
 simp only [envL] at hf
 split at hf
 · rename_i e;subst e;obtain rfl:=jbR hf;exact h
 · exact hl f s' hf
theorem arg0 {ag:Bool} {cs:List CV} {l:List SV} (h:∀ a ∈ SV.val ag cs :: l,WfSV T a) {c:CV} (h2:c ∈ cs):WfC T c:=h _ (jcj ..) c h2
theorem arg1 {x:SV} {ag:Bool} {cs:List CV} {l:List SV} (h:∀ a ∈ x :: SV.val ag cs :: l,WfSV T a) {c:CV} (h2:c ∈ cs):WfC T c:=h _ (jcx _ (jcj ..)) c h2
end Go.Proofs.YtdjfhmghebommaaGreatDoor.Ab
namespace Go.Proofs.YtdjfhmghebommaaGreatDoor.Ab
open Go.RowKit Go.ChangeShapes Go.WideShapes
set_option linter.all false
abbrev cV:List CT:=[.i .i64,.i .i64,.i .i64,.s,.l 53,.l 9,.l 126]
abbrev cO:List CT:=[.i .i64,.i .i64,.i .i64,.l 3,.i .i64,.i .i64,.i .i64,.i .i64,.i .i64,.s,.s,.i .i64,.s,.s,.i .i64,.i .i64,.l 55]
variable {P:Program} {T:Tab} {w:World}
def RowR (T:Tab) (w:World) (X:Nat→Prop) (cts:List CT) (cs:List Value) (row:List D):Prop :=
 cs.length=cts.length∧row.length=cts.length∧∀ (j:Nat) ct v d,cts[j]? = some ct→cs[j]? = some v→row[j]? = some d→RdR T w X ct v d
theorem nV (b o k:Nat):(⟨b,o,none⟩:Addr).add k=⟨b,o+k,none⟩:=by unfold Addr.add;split <;> simp_all
theorem RowR.wf {X:Nat→Prop} {cts:List CT} {cs:List Value} {row:List D} (h:RowR T w X cts cs row):WfRow T cts row:=by
 refine ⟨h.2.1,fun j ct d hc hd=>?_⟩
 have hj:j < cs.length:=by rw [h.1];exact (jbY.1 hc).1
 exact (h.2.2 j ct _ d hc (jbN hj) hd).wf
theorem RdR.argC {X:Nat→Prop} {ct:CT} {v:Value} {d:D} (h:RdR T w X ct v d):ArgC T w X v (ofD ct d):=by
 cases h with
 | int k n h=>exact ⟨rfl,h⟩
 | bool x=>rfl
 | str x h=>exact ⟨rfl,h⟩
 | nil e A c h=>exact RdR.nil e A c h
 | sl e ty b o c rows vs h1 h2 h3 h4 h5 h6 h7 h8=>exact RdR.sl e ty b o c rows vs h1 h2 h3 h4 h5 h6 h7 h8
theorem RowR.argG {X:Nat→Prop} {cts:List CT} {cs:Array Value} {row:List D} (h:RowR T w X cts cs.toList row):ArgR T w X (.agg cs) (argG cts row):=by
 refine ⟨cs.toList,rfl,by simp [rowC, ← h.1],fun i c u hc hu=>?_⟩
 simp only [rowC,jcf,jdN,jcv] at hc
 cases hct:cts[i]? with
 | none=>rw [hct] at hc;cases hc
 | some ct =>
   rw [hct] at hc
   obtain rfl:=jbR hc
   have hi:i < row.length:=by rw [h.2.1];exact (jbY.1 hct).1
   have hd:row[i]? = some (row.getD i default):=by simp [jbT,jbN hi]
   exact (h.2.2 i ct u _ hct hu hd).argC
theorem RowR.argS {X:Nat→Prop} {e:TypeId} {v:Value} {row:List D} (h:RowR T w X [.l e] [v] row):ArgR T w X v (argS e (row.getD 0 default).rows):=by
 have hi:0 < row.length:=by rw [h.2.1];simp
 have hd:row[0]? = some (row.getD 0 default):=by simp [jbT,jbN hi]
 exact ⟨_,rfl,(h.2.2 0 _ v _ rfl rfl hd).argC⟩
theorem ArgsR.one {w:World} {X:Nat→Prop} {v:Value} {a:SV} (h:ArgR T w X v a):ArgsR T w X [v] [a]:=.cons h .nil
end Go.Proofs.YtdjfhmghebommaaGreatDoor.Ab
