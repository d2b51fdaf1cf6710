/- Drawn tables and values: printed by a program of this claim. -/
import Derived.Test.YtppgalpldaibhaaGreatDoorDUb
namespace Go.Proofs.YtppgalpldaibhaaGreatDoor.Ab
open Go.RowKit
set_option linter.unusedVariables false
set_option linter.unusedSimpArgs false
set_option maxRecDepth 100000
set_option maxHeartbeats 2000000
theorem any217:∃ g:List SV→VL × Int × Int,FOk Tryz.prog T 217 { pre:=fun a=>∃ rows i h0,CurOk rows i∧a=[curA 5 rows i h0],res:=fun a=>(fun (x:VL × Int × Int)=>x.1.own 33 9 91) (g a),bx:=true,upd:=fun a=>curU 5 a (g a).2.1 (g a).2.2 } ∧
    ∀ cs args,(fun a=>∃ rows i h0,CurOk rows i∧a=[curA 5 rows i h0]) (.tup [(true,cs)] :: args)→(∀ a ∈ args,WfSV T a)→(fun (a:List SV) (x:VL × Int × Int)=>CurOk (rowsOf a) x.2.1∧(fun x:VL=>VL.ok T 33 9 91 100 x) x.1) (.tup [(true,cs)] :: args) (g (.tup [(true,cs)] :: args)):=by
  obtain ⟨g259,k259,p259⟩:=any259
  have q259:∀ (rows:List (List D)) (i h0:Int),CurOk rows i→CurOk rows (g259 [curA 5 rows i h0]).2.1∧(fun (a:List SV) (x:List (List D))=>LS T 153 2 x) [curA 5 rows i h0] (g259 [curA 5 rows i h0]).1:=fun rows i h0 ok=>p259 _ _ ⟨rows,i,h0,ok,rfl⟩ (by intro a ha;cases ha)
  clear p259
  obtain ⟨g212,k212,p212⟩:=any212
  have q212:∀ (rows:List (List D)) (i h0:Int),CurOk rows i→CurOk rows (g212 [curA 5 rows i h0]).2.1∧(fun (a:List SV) (x:Int)=>inK .i64 x) [curA 5 rows i h0] (g212 [curA 5 rows i h0]).1:=fun rows i h0 ok=>p212 _ _ ⟨rows,i,h0,ok,rfl⟩ (by intro a ha;cases ha)
  clear p212
  refine fokBA (α:=VL × Int × Int) (fun _ x=>x.1.own 33 9 91) (fun a x=>curU 5 a x.2.1 x.2.2) (post:=fun a x=>CurOk (rowsOf a) x.2.1∧(fun x:VL=>VL.ok T 33 9 91 100 x) x.1) (env:=envL [(126,(spBelow 5)),(128,(spOnce 5)),(259, { pre:=fun a=>∃ rows i h0,CurOk rows i∧a=[curA 5 rows i h0],res:=fun a=>(fun (x:List (List D) × Int × Int)=>.val false [.sl true 153 x.1]) (g259 a),bx:=true,upd:=fun a=>curU 5 a (g259 a).2.1 (g259 a).2.2 }),(212, { pre:=fun a=>∃ rows i h0,CurOk rows i∧a=[curA 5 rows i h0],res:=fun a=>(fun (x:Int × Int × Int)=>.val false [.i .i64 x.1]) (g212 a),bx:=true,upd:=fun a=>curU 5 a (g212 a).2.1 (g212 a).2.2 })]) (N:=58) tabT (envL_cons ok126 (envL_cons ok128 (envL_cons k259 (envL_cons k212 envL_nil)))) mixed Tryz.func217 rfl Tryz.call217 Tryz.ntmps217 ?_
  rintro cs args ⟨rows,i,h0,ok,he⟩ hwf
  obtain ⟨rfl,rfl⟩:cs=curC 5 rows i h0∧args=[]:=by simpa only [List.cons.injEq,SV.tup.injEq,Prod.mk.injEq,true_and,and_true] using he
  refine ⟨by simp,?_⟩
  clear he
  rw [Tryz.results217]
  have hb:=belowR_in (rows:=rows) (i:=i) (h:=h0) (n:=3) ⟨by decide,by decide⟩
  have hw:1≤IntKind.i64.wrap (1+belowR rows i h0 3)∧IntKind.i64.wrap (1+belowR rows i h0 3)≤3:=by rw [wrap_i64_in (by omega) (by omega)];omega
  repeat' first
    | (refine And.intro ?_ ?_)
    | (intro h;simp only [reduceCtorEq] at h;done)
    | (intro h;rw [h])
    | (intro h)
  all_goals first
    | (show lowEdges _=true;kernel_rfl)|(show logOk _ _=true;kernel_rfl)|exact True.intro|exact Or.inr rfl|exact Or.inl rfl
    | (show Alive _ _;rfl)
    | (show List.length _=_;rfl)
    | exact ⟨_,_,_,_,(by repeat (first|exact ok|exact ok1|exact ok2|refine byteI_ok ?_|refine (q212 _ _ _ ?_).1|refine (q213 _ _ _ ?_).1|refine (q218 _ _ _ ?_).1|refine (q144 _ _ _ ?_).1|refine (q259 _ _ _ ?_).1|refine (q215 _ _ _ ?_).1)),hl,rfl⟩
    | exact ⟨_,_,_,_,(by repeat (first|exact ok|exact ok1|exact ok2|refine byteI_ok ?_|refine (q212 _ _ _ ?_).1|refine (q213 _ _ _ ?_).1|refine (q218 _ _ _ ?_).1|refine (q144 _ _ _ ?_).1|refine (q259 _ _ _ ?_).1|refine (q215 _ _ _ ?_).1)),⟨by decide,by decide⟩,rfl⟩
    | exact ⟨_,_,_,(by repeat (first|exact ok|exact ok1|exact ok2|refine byteI_ok ?_|refine (q212 _ _ _ ?_).1|refine (q213 _ _ _ ?_).1|refine (q218 _ _ _ ?_).1|refine (q144 _ _ _ ?_).1|refine (q259 _ _ _ ?_).1|refine (q215 _ _ _ ?_).1)),rfl⟩
    | exact ⟨_,_,_,_,(by repeat (first|exact ok|exact ok1|exact ok2|refine byteI_ok ?_|refine (q212 _ _ _ ?_).1|refine (q213 _ _ _ ?_).1|refine (q218 _ _ _ ?_).1|refine (q144 _ _ _ ?_).1|refine (q259 _ _ _ ?_).1|refine (q215 _ _ _ ?_).1)),rfl⟩
    | (with_reducible exact X4_g2 hw)
    | (with_reducible exact X4_g3 hw)
    | (with_reducible exact X4_g4 hw)
    | (with_reducible exact X4_g5 hw)
    | (with_reducible exact X4_g6 hw)
    | (with_reducible exact X4_g7 hw)
    | ((with_reducible show (_:Int)≤_);omega)
    | refine ⟨(⟨_,_,_,_,_,_,_⟩,_,_),?_,rfl,rfl,True.intro⟩
    | skip
  all_goals refine awp_loop (Q:=_) [0,2,3,4,5,6,7] [58,2,5] (fun n s=>∃ (z m nn:Int) (nm cc o:List (List D)) (I H:Int),s=([.ptr 58 0 0,.ptr 2 1 0,argS 9 nm,.val false [.i .i64 nn],.ptr 5 1 0,.val false [.i .i64 m],.val false [.i .i64 z]],[(0,[.val false [.sl false 5 rows],.val false [.i .i64 I],.val false [.i .i64 H]]),(1,[.val false [.i .i64 0],.val false [.i .i64 0],.val false [.i .i64 0],.val false [.s ByteArray.empty],.val false [.sl true 33 []],.val false [.sl true 9 []],.val false [.sl true 91 []]]),(1,[.val false [.i .i64 5],.val false [.i .i64 0],.val false [.i .i64 0],.val false [.s ByteArray.empty],.val false [.sl true 33 ([])],.val false [.sl true 9 (cc)],.val false [.sl true 91 (o)]])])∧(1≤nn∧nn≤3)∧(0≤m∧m < 6)∧TR 1 cc∧cc.length≤3∧CurOk rows I∧LS T 91 (z.toNat * 6) o∧0≤z∧z≤m∧n=m.toNat - z.toNat) ?_ ?_
  all_goals first
    | exact ⟨rfl,_,0,_,_,_,_,_,_,_,rfl,⟨by decide,by decide⟩,belowR_in ⟨by decide,by decide⟩,(P4_tr hw).take _,take1_len _,(by repeat (first|exact ok|exact ok1|exact ok2|refine byteI_ok ?_|refine (q212 _ _ _ ?_).1|refine (q213 _ _ _ ?_).1|refine (q218 _ _ _ ?_).1|refine (q144 _ _ _ ?_).1|refine (q259 _ _ _ ?_).1|refine (q215 _ _ _ ?_).1)),LS.nil,by decide,(belowR_in ⟨by decide,by decide⟩).1,rfl⟩
    | exact ⟨rfl,_,0,_,_,_,_,_,_,_,rfl,⟨by omega,by omega⟩,belowR_in ⟨by decide,by decide⟩,X4_tr _,X4_g8 hw,(by repeat (first|exact ok|exact ok1|exact ok2|refine byteI_ok ?_|refine (q212 _ _ _ ?_).1|refine (q213 _ _ _ ?_).1|refine (q218 _ _ _ ?_).1|refine (q144 _ _ _ ?_).1|refine (q259 _ _ _ ?_).1|refine (q215 _ _ _ ?_).1)),LS.nil,by decide,(belowR_in ⟨by decide,by decide⟩).1,rfl⟩
    | skip
  all_goals rintro n s ⟨z,m,nn,nm,cc,o,I,H,rfl,hnn,hm,hT,hcl,ok1,hL,h1,h2,h3⟩
  all_goals have hlen:=hL.len
  all_goals repeat' first
    | (refine And.intro ?_ ?_)
    | (intro h;simp only [reduceCtorEq] at h;done)
    | (intro h;rw [h])
    | (intro h)
  all_goals first
    | (show lowEdges _=true;kernel_rfl)|(show logOk _ _=true;kernel_rfl)|exact True.intro|exact Or.inr rfl|exact Or.inl rfl
    | exact ⟨_,rfl⟩
    | exact ⟨_,_,rfl⟩
    | (show Alive _ _;rfl)
    | (show List.length _=_;rfl)
    | exact ⟨_,_,_,_,(by repeat (first|exact ok|exact ok1|exact ok2|refine byteI_ok ?_|refine (q212 _ _ _ ?_).1|refine (q213 _ _ _ ?_).1|refine (q218 _ _ _ ?_).1|refine (q144 _ _ _ ?_).1|refine (q259 _ _ _ ?_).1|refine (q215 _ _ _ ?_).1)),hl,rfl⟩
    | exact ⟨_,_,_,_,(by repeat (first|exact ok|exact ok1|exact ok2|refine byteI_ok ?_|refine (q212 _ _ _ ?_).1|refine (q213 _ _ _ ?_).1|refine (q218 _ _ _ ?_).1|refine (q144 _ _ _ ?_).1|refine (q259 _ _ _ ?_).1|refine (q215 _ _ _ ?_).1)),⟨by decide,by decide⟩,rfl⟩
    | exact ⟨_,_,_,(by repeat (first|exact ok|exact ok1|exact ok2|refine byteI_ok ?_|refine (q212 _ _ _ ?_).1|refine (q213 _ _ _ ?_).1|refine (q218 _ _ _ ?_).1|refine (q144 _ _ _ ?_).1|refine (q259 _ _ _ ?_).1|refine (q215 _ _ _ ?_).1)),rfl⟩
    | exact ⟨_,_,_,_,(by repeat (first|exact ok|exact ok1|exact ok2|refine byteI_ok ?_|refine (q212 _ _ _ ?_).1|refine (q213 _ _ _ ?_).1|refine (q218 _ _ _ ?_).1|refine (q144 _ _ _ ?_).1|refine (q259 _ _ _ ?_).1|refine (q215 _ _ _ ?_).1)),rfl⟩
    | ((with_reducible show (_:Nat)≤_);simp only [maxLen];omega)
    | ((with_reducible show (_:Int)≤_);omega)
    | refine ⟨(⟨_,_,_,_,_,_,_⟩,_,_),?_,rfl,rfl,True.intro⟩
    | skip
  all_goals first
    | exact ⟨ok1,(show inK .i64 5 from ⟨by decide,by decide⟩),zero_inK _,zero_inK _,(by have a1:=hL.1;have a2:=(hT.ls (T:=T) (S:=9) rfl rfl (by decide) (by omega)).1;show 0+0+0+cc.length+wRows cc+o.length+wRows o≤100;omega),.nil _,(hT.ls rfl rfl (by decide) (by omega)).2,hL.2⟩
    | refine awp_loop (Q:=_) [0,2,3,4,5,6,7,8,9] [58,2,5,8] (fun n2 s2=>∃ (y:Int) (cs:List (List D)) (I2 H2:Int),s2=([.ptr 58 0 0,.ptr 2 1 0,argS 9 nm,.val false [.i .i64 nn],.ptr 5 1 0,.val false [.i .i64 m],.val false [.i .i64 z],.ptr 8 1 0,.val false [.i .i64 y]],[(0,[.val false [.sl false 5 rows],.val false [.i .i64 I2],.val false [.i .i64 H2]]),(1,[.val false [.i .i64 0],.val false [.i .i64 0],.val false [.i .i64 0],.val false [.s ByteArray.empty],.val false [.sl true 33 []],.val false [.sl true 9 []],.val false [.sl true 91 []]]),(1,[.val false [.i .i64 5],.val false [.i .i64 0],.val false [.i .i64 0],.val false [.s ByteArray.empty],.val false [.sl true 33 ([])],.val false [.sl true 9 (cc)],.val false [.sl true 91 (o)]]),(1,[.val false [.sl true 3 (cs)],.val false [.sl true 153 ((g259 [curA 5 rows I H]).1)]])])∧0≤y∧y≤nn∧CurOk rows I2∧LS T 3 y.toNat cs∧n2=nn.toNat - y.toNat) ?_ ?_
  all_goals first
    | exact ⟨rfl,_,0,_,_,_,rfl,by decide,by omega,(q259 rows I H ok1).1,LS.nil,rfl⟩
    | skip
  all_goals rintro n2 s2 ⟨y,cs,I2,H2,rfl,y0,y1,ok2,hC,h4⟩
  all_goals have hcn:=hC.len
  all_goals have hfr:=(q259 rows I H ok1).2
  all_goals repeat' first
    | (refine And.intro ?_ ?_)
    | (intro h;simp only [reduceCtorEq] at h;done)
    | (intro h;rw [h])
    | (intro h)
  all_goals first
    | (show lowEdges _=true;kernel_rfl)|(show logOk _ _=true;kernel_rfl)|exact True.intro|exact Or.inr rfl|exact Or.inl rfl
    | exact ⟨_,rfl⟩
    | exact ⟨_,_,rfl⟩
    | (show Alive _ _;rfl)
    | (show List.length _=_;rfl)
    | exact ⟨_,_,_,_,(by repeat (first|exact ok|exact ok1|exact ok2|refine byteI_ok ?_|refine (q212 _ _ _ ?_).1|refine (q213 _ _ _ ?_).1|refine (q218 _ _ _ ?_).1|refine (q144 _ _ _ ?_).1|refine (q259 _ _ _ ?_).1|refine (q215 _ _ _ ?_).1)),hl,rfl⟩
    | exact ⟨_,_,_,_,(by repeat (first|exact ok|exact ok1|exact ok2|refine byteI_ok ?_|refine (q212 _ _ _ ?_).1|refine (q213 _ _ _ ?_).1|refine (q218 _ _ _ ?_).1|refine (q144 _ _ _ ?_).1|refine (q259 _ _ _ ?_).1|refine (q215 _ _ _ ?_).1)),⟨by decide,by decide⟩,rfl⟩
    | exact ⟨_,_,_,(by repeat (first|exact ok|exact ok1|exact ok2|refine byteI_ok ?_|refine (q212 _ _ _ ?_).1|refine (q213 _ _ _ ?_).1|refine (q218 _ _ _ ?_).1|refine (q144 _ _ _ ?_).1|refine (q259 _ _ _ ?_).1|refine (q215 _ _ _ ?_).1)),rfl⟩
    | exact ⟨_,_,_,_,(by repeat (first|exact ok|exact ok1|exact ok2|refine byteI_ok ?_|refine (q212 _ _ _ ?_).1|refine (q213 _ _ _ ?_).1|refine (q218 _ _ _ ?_).1|refine (q144 _ _ _ ?_).1|refine (q259 _ _ _ ?_).1|refine (q215 _ _ _ ?_).1)),rfl⟩
    | ((with_reducible show (_:Nat)≤_);show cs.length+1≤maxLen;simp only [maxLen];omega)
    | ((with_reducible show (_:Nat)≤_);show (cs.length+1) * 8≤140737488355328;omega)
    | ((with_reducible show (_:Nat)≤_);show o.length+1≤maxLen;simp only [maxLen];omega)
    | ((with_reducible show (_:Nat)≤_);show (o.length+1) * 48≤140737488355328;omega)
    | (have hy:y < nn:=of_decide_eq_true ‹decide (y < nn)=true›
       have e:(y+1).toNat=y.toNat+1+0:=by omega
       refine ⟨nn.toNat - (y+1).toNat,by omega,y+1,_,_,_,congrArg (fun q=>(([.ptr 58 0 0,.ptr 2 1 0,argS 9 nm,.val false [.i .i64 nn],.ptr 5 1 0,.val false [.i .i64 m],.val false [.i .i64 z],.ptr 8 1 0,.val false [.i .i64 q]],[(0,[.val false [.sl false 5 rows],.val false [.i .i64 _],.val false [.i .i64 _]]),(1,[.val false [.i .i64 0],.val false [.i .i64 0],.val false [.i .i64 0],.val false [.s ByteArray.empty],.val false [.sl true 33 []],.val false [.sl true 9 []],.val false [.sl true 91 []]]),(1,[.val false [.i .i64 5],.val false [.i .i64 0],.val false [.i .i64 0],.val false [.s ByteArray.empty],.val false [.sl true 33 ([])],.val false [.sl true 9 (cc)],.val false [.sl true 91 (o)]]),(1,[.val false [.sl true 3 (_)],.val false [.sl true 153 ((g259 [curA 5 rows I H]).1)]])]):Snap)) (wrap_i64_in (by omega) (by omega)),by omega,by omega,(q212 rows I2 H2 ok2).1,?_,rfl⟩
       rw [e]
       exact hC.add rfl (by omega) (wfInt1 (q212 rows I2 H2 ok2).2) (Nat.le_refl _))
    | (have hz:z < m:=of_decide_eq_true ‹decide (z < m)=true›
       have e:(z+1).toNat * 6=z.toNat * 6+1+5:=by omega
       refine ⟨m.toNat - (z+1).toNat,by omega,z+1,m,nn,nm,cc,_,_,_,congrArg (fun q=>(([.ptr 58 0 0,.ptr 2 1 0,argS 9 nm,.val false [.i .i64 nn],.ptr 5 1 0,.val false [.i .i64 m],.val false [.i .i64 q]],[(0,[.val false [.sl false 5 rows],.val false [.i .i64 _],.val false [.i .i64 _]]),(1,[.val false [.i .i64 0],.val false [.i .i64 0],.val false [.i .i64 0],.val false [.s ByteArray.empty],.val false [.sl true 33 []],.val false [.sl true 9 []],.val false [.sl true 91 []]]),(1,[.val false [.i .i64 5],.val false [.i .i64 0],.val false [.i .i64 0],.val false [.s ByteArray.empty],.val false [.sl true 33 ([])],.val false [.sl true 9 (cc)],.val false [.sl true 91 (_)]])]):Snap)) (wrap_i64_in (by omega) (by omega)),hnn,hm,hT,hcl,ok2,?_,by omega,by omega,rfl⟩
       rw [e]
       exact hL.add rfl (by omega) (wfCells hC.2 hfr.2) (by have a1:=hC.1;have a2:=hfr.1;show cs.length+wRows cs+((_:List (List D)).length+wRows _+0)≤5;omega))
    | skip
  all_goals first
    | skip
theorem any143:∃ g:List SV→VL × Int × Int,FOk Tryz.prog T 143 { pre:=fun a=>∃ rows i h0,CurOk rows i∧a=[curA 5 rows i h0],res:=fun a=>(fun (x:VL × Int × Int)=>x.1.own 33 9 91) (g a),bx:=true,upd:=fun a=>curU 5 a (g a).2.1 (g a).2.2 } ∧
    ∀ cs args,(fun a=>∃ rows i h0,CurOk rows i∧a=[curA 5 rows i h0]) (.tup [(true,cs)] :: args)→(∀ a ∈ args,WfSV T a)→(fun (a:List SV) (x:VL × Int × Int)=>CurOk (rowsOf a) x.2.1∧(fun x:VL=>VL.ok T 33 9 91 15309 x) x.1) (.tup [(true,cs)] :: args) (g (.tup [(true,cs)] :: args)):=by
  obtain ⟨g212,k212,p212⟩:=any212
  have q212:∀ (rows:List (List D)) (i h0:Int),CurOk rows i→CurOk rows (g212 [curA 5 rows i h0]).2.1∧(fun (a:List SV) (x:Int)=>inK .i64 x) [curA 5 rows i h0] (g212 [curA 5 rows i h0]).1:=fun rows i h0 ok=>p212 _ _ ⟨rows,i,h0,ok,rfl⟩ (by intro a ha;cases ha)
  clear p212
  obtain ⟨g213,k213,p213⟩:=any213
  have q213:∀ (rows:List (List D)) (i h0:Int),CurOk rows i→CurOk rows (g213 [curA 5 rows i h0]).2.1∧(fun (a:List SV) (x:ByteArray)=>x.size≤20) [curA 5 rows i h0] (g213 [curA 5 rows i h0]).1:=fun rows i h0 ok=>p213 _ _ ⟨rows,i,h0,ok,rfl⟩ (by intro a ha;cases ha)
  clear p213
  obtain ⟨g214d3,k214d3,p214d3⟩:=any214d3
  have q214d3:∀ (rows:List (List D)) (i h0:Int),CurOk rows i→(∀ a ∈ ([.val false [.i .i64 3]]:List SV),WfSV T a)→CurOk rows (g214d3 [curA 5 rows i h0,.val false [.i .i64 3]]).2.1∧(fun (a:List SV) (x:VL)=>VL.ok T 33 9 91 15309 x) [curA 5 rows i h0,.val false [.i .i64 3]] (g214d3 [curA 5 rows i h0,.val false [.i .i64 3]]).1:=fun rows i h0 ok hw=>p214d3 _ _ ⟨rows,i,h0,ok,rfl⟩ (hw)
  clear p214d3
  obtain ⟨g215,k215,p215⟩:=any215
  have q215:∀ (rows:List (List D)) (i h0:Int),CurOk rows i→CurOk rows (g215 [curA 5 rows i h0]).2.1∧(fun (a:List SV) (x:VL)=>VL.ok T 33 9 91 8 x) [curA 5 rows i h0] (g215 [curA 5 rows i h0]).1:=fun rows i h0 ok=>p215 _ _ ⟨rows,i,h0,ok,rfl⟩ (by intro a ha;cases ha)
  clear p215
  obtain ⟨g217,k217,p217⟩:=any217
  have q217:∀ (rows:List (List D)) (i h0:Int),CurOk rows i→CurOk rows (g217 [curA 5 rows i h0]).2.1∧(fun (a:List SV) (x:VL)=>VL.ok T 33 9 91 100 x) [curA 5 rows i h0] (g217 [curA 5 rows i h0]).1:=fun rows i h0 ok=>p217 _ _ ⟨rows,i,h0,ok,rfl⟩ (by intro a ha;cases ha)
  clear p217
  refine fokBA (α:=VL × Int × Int) (fun _ x=>x.1.own 33 9 91) (fun a x=>curU 5 a x.2.1 x.2.2) (post:=fun a x=>CurOk (rowsOf a) x.2.1∧(fun x:VL=>VL.ok T 33 9 91 15309 x) x.1) (env:=envL [(126,(spBelow 5)),(212, { pre:=fun a=>∃ rows i h0,CurOk rows i∧a=[curA 5 rows i h0],res:=fun a=>(fun (x:Int × Int × Int)=>.val false [.i .i64 x.1]) (g212 a),bx:=true,upd:=fun a=>curU 5 a (g212 a).2.1 (g212 a).2.2 }),(177,spv177),(213, { pre:=fun a=>∃ rows i h0,CurOk rows i∧a=[curA 5 rows i h0],res:=fun a=>(fun (x:ByteArray × Int × Int)=>.val false [.s x.1]) (g213 a),bx:=true,upd:=fun a=>curU 5 a (g213 a).2.1 (g213 a).2.2 }),(170,spv170),(214, { pre:=fun a=>∃ rows i h0,CurOk rows i∧a=[curA 5 rows i h0,.val false [.i .i64 3]],res:=fun a=>(fun (x:VL × Int × Int)=>x.1.own 33 9 91) (g214d3 a),bx:=true,upd:=fun a=>curU 5 a (g214d3 a).2.1 (g214d3 a).2.2 }),(215, { pre:=fun a=>∃ rows i h0,CurOk rows i∧a=[curA 5 rows i h0],res:=fun a=>(fun (x:VL × Int × Int)=>x.1.own 33 9 91) (g215 a),bx:=true,upd:=fun a=>curU 5 a (g215 a).2.1 (g215 a).2.2 }),(216,spv216),(174,spv174),(217, { pre:=fun a=>∃ rows i h0,CurOk rows i∧a=[curA 5 rows i h0],res:=fun a=>(fun (x:VL × Int × Int)=>x.1.own 33 9 91) (g217 a),bx:=true,upd:=fun a=>curU 5 a (g217 a).2.1 (g217 a).2.2 })]) (N:=40) tabT (envL_cons ok126 (envL_cons k212 (envL_cons okv177 (envL_cons k213 (envL_cons okv170 (envL_cons k214d3 (envL_cons k215 (envL_cons okv216 (envL_cons okv174 (envL_cons k217 envL_nil)))))))))) mixed Tryz.func143 rfl Tryz.call143 Tryz.ntmps143 ?_
  rintro cs args ⟨rows,i,h0,ok,he⟩ hwf
  obtain ⟨rfl,rfl⟩:cs=curC 5 rows i h0∧args=[]:=by simpa only [List.cons.injEq,SV.tup.injEq,Prod.mk.injEq,true_and,and_true] using he
  refine ⟨by simp,?_⟩
  clear he
  rw [Tryz.results143]
  repeat' first
    | (refine And.intro ?_ ?_)
    | (intro h;simp only [reduceCtorEq] at h;done)
    | (intro h;rw [h])
    | (intro h)
  all_goals first
    | (show lowEdges _=true;kernel_rfl)|(show logOk _ _=true;kernel_rfl)|exact True.intro|exact Or.inr rfl|exact Or.inl rfl
    | (show Alive _ _;rfl)
    | (show List.length _=_;rfl)
    | exact ⟨_,_,_,_,(by repeat (first|exact ok|exact ok1|exact ok2|refine byteI_ok ?_|refine (q212 _ _ _ ?_).1|refine (q213 _ _ _ ?_).1|refine (q218 _ _ _ ?_).1|refine (q144 _ _ _ ?_).1|refine (q259 _ _ _ ?_).1|refine (q215 _ _ _ ?_).1|refine (q217 _ _ _ ?_).1|refine (q214d3 _ _ _ ?_ (wfN _ (by decide) (by decide))).1)),hl,rfl⟩
    | exact ⟨_,_,_,_,(by repeat (first|exact ok|exact ok1|exact ok2|refine byteI_ok ?_|refine (q212 _ _ _ ?_).1|refine (q213 _ _ _ ?_).1|refine (q218 _ _ _ ?_).1|refine (q144 _ _ _ ?_).1|refine (q259 _ _ _ ?_).1|refine (q215 _ _ _ ?_).1|refine (q217 _ _ _ ?_).1|refine (q214d3 _ _ _ ?_ (wfN _ (by decide) (by decide))).1)),⟨by decide,by decide⟩,rfl⟩
    | exact ⟨_,_,_,(by repeat (first|exact ok|exact ok1|exact ok2|refine byteI_ok ?_|refine (q212 _ _ _ ?_).1|refine (q213 _ _ _ ?_).1|refine (q218 _ _ _ ?_).1|refine (q144 _ _ _ ?_).1|refine (q259 _ _ _ ?_).1|refine (q215 _ _ _ ?_).1|refine (q217 _ _ _ ?_).1|refine (q214d3 _ _ _ ?_ (wfN _ (by decide) (by decide))).1)),rfl⟩
    | exact ⟨_,_,_,_,(by repeat (first|exact ok|exact ok1|exact ok2|refine byteI_ok ?_|refine (q212 _ _ _ ?_).1|refine (q213 _ _ _ ?_).1|refine (q218 _ _ _ ?_).1|refine (q144 _ _ _ ?_).1|refine (q259 _ _ _ ?_).1|refine (q215 _ _ _ ?_).1|refine (q217 _ _ _ ?_).1|refine (q214d3 _ _ _ ?_ (wfN _ (by decide) (by decide))).1)),rfl⟩
    | exact ⟨_,rfl⟩
    | exact ⟨_,_,rfl⟩
    | exact ⟨_,_,_,(by repeat (first|exact ok|exact ok1|exact ok2|refine byteI_ok ?_|refine (q212 _ _ _ ?_).1|refine (q213 _ _ _ ?_).1|refine (q218 _ _ _ ?_).1|refine (q144 _ _ _ ?_).1|refine (q259 _ _ _ ?_).1|refine (q215 _ _ _ ?_).1|refine (q217 _ _ _ ?_).1|refine (q214d3 _ _ _ ?_ (wfN _ (by decide) (by decide))).1)),by with_reducible rfl⟩
    | refine ⟨(⟨_,_,_,_,_,_,_⟩,_,_),?_,rfl,rfl,True.intro⟩
    | skip
  all_goals first
    | exact ⟨(by repeat (first|exact ok|exact ok1|exact ok2|refine byteI_ok ?_|refine (q212 _ _ _ ?_).1|refine (q213 _ _ _ ?_).1|refine (q218 _ _ _ ?_).1|refine (q144 _ _ _ ?_).1|refine (q259 _ _ _ ?_).1|refine (q215 _ _ _ ?_).1|refine (q217 _ _ _ ?_).1|refine (q214d3 _ _ _ ?_ (wfN _ (by decide) (by decide))).1)),VL.num_ok (q212 _ _ _ (by repeat (first|exact ok|exact ok1|exact ok2|refine byteI_ok ?_|refine (q212 _ _ _ ?_).1|refine (q213 _ _ _ ?_).1|refine (q218 _ _ _ ?_).1|refine (q144 _ _ _ ?_).1|refine (q259 _ _ _ ?_).1|refine (q215 _ _ _ ?_).1|refine (q217 _ _ _ ?_).1|refine (q214d3 _ _ _ ?_ (wfN _ (by decide) (by decide))).1))).2⟩
    | exact ⟨(by repeat (first|exact ok|exact ok1|exact ok2|refine byteI_ok ?_|refine (q212 _ _ _ ?_).1|refine (q213 _ _ _ ?_).1|refine (q218 _ _ _ ?_).1|refine (q144 _ _ _ ?_).1|refine (q259 _ _ _ ?_).1|refine (q215 _ _ _ ?_).1|refine (q217 _ _ _ ?_).1|refine (q214d3 _ _ _ ?_ (wfN _ (by decide) (by decide))).1)),VL.txt_ok (q213 _ _ _ (by repeat (first|exact ok|exact ok1|exact ok2|refine byteI_ok ?_|refine (q212 _ _ _ ?_).1|refine (q213 _ _ _ ?_).1|refine (q218 _ _ _ ?_).1|refine (q144 _ _ _ ?_).1|refine (q259 _ _ _ ?_).1|refine (q215 _ _ _ ?_).1|refine (q217 _ _ _ ?_).1|refine (q214d3 _ _ _ ?_ (wfN _ (by decide) (by decide))).1))).2⟩
    | exact ⟨(by repeat (first|exact ok|exact ok1|exact ok2|refine byteI_ok ?_|refine (q212 _ _ _ ?_).1|refine (q213 _ _ _ ?_).1|refine (q218 _ _ _ ?_).1|refine (q144 _ _ _ ?_).1|refine (q259 _ _ _ ?_).1|refine (q215 _ _ _ ?_).1|refine (q217 _ _ _ ?_).1|refine (q214d3 _ _ _ ?_ (wfN _ (by decide) (by decide))).1)),(q214d3 _ _ _ (by repeat (first|exact ok|exact ok1|exact ok2|refine byteI_ok ?_|refine (q212 _ _ _ ?_).1|refine (q213 _ _ _ ?_).1|refine (q218 _ _ _ ?_).1|refine (q144 _ _ _ ?_).1|refine (q259 _ _ _ ?_).1|refine (q215 _ _ _ ?_).1|refine (q217 _ _ _ ?_).1|refine (q214d3 _ _ _ ?_ (wfN _ (by decide) (by decide))).1)) (wfN _ (by decide) (by decide))).2⟩
    | exact ⟨(by repeat (first|exact ok|exact ok1|exact ok2|refine byteI_ok ?_|refine (q212 _ _ _ ?_).1|refine (q213 _ _ _ ?_).1|refine (q218 _ _ _ ?_).1|refine (q144 _ _ _ ?_).1|refine (q259 _ _ _ ?_).1|refine (q215 _ _ _ ?_).1|refine (q217 _ _ _ ?_).1|refine (q214d3 _ _ _ ?_ (wfN _ (by decide) (by decide))).1)),(q215 _ _ _ (by repeat (first|exact ok|exact ok1|exact ok2|refine byteI_ok ?_|refine (q212 _ _ _ ?_).1|refine (q213 _ _ _ ?_).1|refine (q218 _ _ _ ?_).1|refine (q144 _ _ _ ?_).1|refine (q259 _ _ _ ?_).1|refine (q215 _ _ _ ?_).1|refine (q217 _ _ _ ?_).1|refine (q214d3 _ _ _ ?_ (wfN _ (by decide) (by decide))).1))).2.mono (by decide)⟩
    | exact ⟨(by repeat (first|exact ok|exact ok1|exact ok2|refine byteI_ok ?_|refine (q212 _ _ _ ?_).1|refine (q213 _ _ _ ?_).1|refine (q218 _ _ _ ?_).1|refine (q144 _ _ _ ?_).1|refine (q259 _ _ _ ?_).1|refine (q215 _ _ _ ?_).1|refine (q217 _ _ _ ?_).1|refine (q214d3 _ _ _ ?_ (wfN _ (by decide) (by decide))).1)),VL.str_ok (q212 _ _ _ (by repeat (first|exact ok|exact ok1|exact ok2|refine byteI_ok ?_|refine (q212 _ _ _ ?_).1|refine (q213 _ _ _ ?_).1|refine (q218 _ _ _ ?_).1|refine (q144 _ _ _ ?_).1|refine (q259 _ _ _ ?_).1|refine (q215 _ _ _ ?_).1|refine (q217 _ _ _ ?_).1|refine (q214d3 _ _ _ ?_ (wfN _ (by decide) (by decide))).1))).2 (q212 _ _ _ (by repeat (first|exact ok|exact ok1|exact ok2|refine byteI_ok ?_|refine (q212 _ _ _ ?_).1|refine (q213 _ _ _ ?_).1|refine (q218 _ _ _ ?_).1|refine (q144 _ _ _ ?_).1|refine (q259 _ _ _ ?_).1|refine (q215 _ _ _ ?_).1|refine (q217 _ _ _ ?_).1|refine (q214d3 _ _ _ ?_ (wfN _ (by decide) (by decide))).1))).2⟩
    | exact ⟨(by repeat (first|exact ok|exact ok1|exact ok2|refine byteI_ok ?_|refine (q212 _ _ _ ?_).1|refine (q213 _ _ _ ?_).1|refine (q218 _ _ _ ?_).1|refine (q144 _ _ _ ?_).1|refine (q259 _ _ _ ?_).1|refine (q215 _ _ _ ?_).1|refine (q217 _ _ _ ?_).1|refine (q214d3 _ _ _ ?_ (wfN _ (by decide) (by decide))).1)),VL.num_ok (wrap_inK _ _)⟩
    | exact ⟨(by repeat (first|exact ok|exact ok1|exact ok2|refine byteI_ok ?_|refine (q212 _ _ _ ?_).1|refine (q213 _ _ _ ?_).1|refine (q218 _ _ _ ?_).1|refine (q144 _ _ _ ?_).1|refine (q259 _ _ _ ?_).1|refine (q215 _ _ _ ?_).1|refine (q217 _ _ _ ?_).1|refine (q214d3 _ _ _ ?_ (wfN _ (by decide) (by decide))).1)),(q217 _ _ _ (by repeat (first|exact ok|exact ok1|exact ok2|refine byteI_ok ?_|refine (q212 _ _ _ ?_).1|refine (q213 _ _ _ ?_).1|refine (q218 _ _ _ ?_).1|refine (q144 _ _ _ ?_).1|refine (q259 _ _ _ ?_).1|refine (q215 _ _ _ ?_).1|refine (q217 _ _ _ ?_).1|refine (q214d3 _ _ _ ?_ (wfN _ (by decide) (by decide))).1))).2.mono (by decide)⟩
    | skip
theorem any71:∃ g:List SV→VL × Int × Int,FOk Tryz.prog T 71 { pre:=fun a=>∃ rows i h0,CurOk rows i∧a=[curA 5 rows i h0],res:=fun a=>(fun (x:VL × Int × Int)=>.val true [.i .i64 x.1.k,.i .i64 x.1.n,.i .i64 x.1.s,.s x.1.t,.sl false 33 x.1.l,.sl false 9 x.1.c,.sl false 91 x.1.r]) (g a),bx:=true,upd:=fun a=>curU 5 a (g a).2.1 (g a).2.2 } ∧
    ∀ cs args,(fun a=>∃ rows i h0,CurOk rows i∧a=[curA 5 rows i h0]) (.tup [(true,cs)] :: args)→(∀ a ∈ args,WfSV T a)→(fun (a:List SV) (x:VL × Int × Int)=>CurOk (rowsOf a) x.2.1∧(fun x:VL=>VL.ok T 33 9 91 40000 x) x.1) (.tup [(true,cs)] :: args) (g (.tup [(true,cs)] :: args)):=by
  obtain ⟨g143,k143,p143⟩:=any143
  have q143:∀ (rows:List (List D)) (i h0:Int),CurOk rows i→CurOk rows (g143 [curA 5 rows i h0]).2.1∧(fun (a:List SV) (x:VL)=>VL.ok T 33 9 91 15309 x) [curA 5 rows i h0] (g143 [curA 5 rows i h0]).1:=fun rows i h0 ok=>p143 _ _ ⟨rows,i,h0,ok,rfl⟩ (by intro a ha;cases ha)
  clear p143
  obtain ⟨g144,k144,p144⟩:=any144
  have q144:∀ (rows:List (List D)) (i h0:Int),CurOk rows i→CurOk rows (g144 [curA 5 rows i h0]).2.1∧(fun (a:List SV) (x:ByteArray)=>x.size≤20) [curA 5 rows i h0] (g144 [curA 5 rows i h0]).1:=fun rows i h0 ok=>p144 _ _ ⟨rows,i,h0,ok,rfl⟩ (by intro a ha;cases ha)
  clear p144
  refine fokBA (α:=VL × Int × Int) (fun _ x=>.val true [.i .i64 x.1.k,.i .i64 x.1.n,.i .i64 x.1.s,.s x.1.t,.sl false 33 x.1.l,.sl false 9 x.1.c,.sl false 91 x.1.r]) (fun a x=>curU 5 a x.2.1 x.2.2) (post:=fun a x=>CurOk (rowsOf a) x.2.1∧(fun x:VL=>VL.ok T 33 9 91 40000 x) x.1) (env:=envL [(143, { pre:=fun a=>∃ rows i h0,CurOk rows i∧a=[curA 5 rows i h0],res:=fun a=>(fun (x:VL × Int × Int)=>x.1.own 33 9 91) (g143 a),bx:=true,upd:=fun a=>curU 5 a (g143 a).2.1 (g143 a).2.2 }),(126,(spBelow 5)),(144, { pre:=fun a=>∃ rows i h0,CurOk rows i∧a=[curA 5 rows i h0],res:=fun a=>(fun (x:ByteArray × Int × Int)=>.val false [.s x.1]) (g144 a),bx:=true,upd:=fun a=>curU 5 a (g144 a).2.1 (g144 a).2.2 })]) (N:=59) tabT (envL_cons k143 (envL_cons ok126 (envL_cons k144 envL_nil))) mixed Tryz.func71 rfl Tryz.call71 Tryz.ntmps71 ?_
  rintro cs args ⟨rows,i,h0,ok,he⟩ hwf
  obtain ⟨rfl,rfl⟩:cs=curC 5 rows i h0∧args=[]:=by simpa only [List.cons.injEq,SV.tup.injEq,Prod.mk.injEq,true_and,and_true] using he
  refine ⟨by simp,?_⟩
  clear he
  rw [Tryz.results71]
  obtain ⟨hcur,hk,hn,hs,hz,hl,hc,hr⟩:=q143 rows i h0 ok
  repeat' first
    | (refine And.intro ?_ ?_)
    | (intro h;simp only [reduceCtorEq] at h;done)
    | (intro h;rw [h])
    | (intro h)
  all_goals first
    | (show lowEdges _=true;kernel_rfl)|(show logOk _ _=true;kernel_rfl)|exact True.intro|exact Or.inr rfl|exact Or.inl rfl
    | (show Alive _ _;rfl)
    | (show List.length _=_;rfl)
    | exact ⟨_,_,_,_,(by repeat (first|exact ok|exact ok1|exact ok2|refine byteI_ok ?_|refine (q212 _ _ _ ?_).1|refine (q213 _ _ _ ?_).1|refine (q218 _ _ _ ?_).1|refine (q144 _ _ _ ?_).1|refine (q259 _ _ _ ?_).1|refine (q215 _ _ _ ?_).1|refine (q217 _ _ _ ?_).1|refine (q214d3 _ _ _ ?_ (wfN _ (by decide) (by decide))).1|refine (q143 _ _ _ ?_).1)),hl,rfl⟩
    | exact ⟨_,_,_,_,(by repeat (first|exact ok|exact ok1|exact ok2|refine byteI_ok ?_|refine (q212 _ _ _ ?_).1|refine (q213 _ _ _ ?_).1|refine (q218 _ _ _ ?_).1|refine (q144 _ _ _ ?_).1|refine (q259 _ _ _ ?_).1|refine (q215 _ _ _ ?_).1|refine (q217 _ _ _ ?_).1|refine (q214d3 _ _ _ ?_ (wfN _ (by decide) (by decide))).1|refine (q143 _ _ _ ?_).1)),⟨by decide,by decide⟩,rfl⟩
    | exact ⟨_,_,_,(by repeat (first|exact ok|exact ok1|exact ok2|refine byteI_ok ?_|refine (q212 _ _ _ ?_).1|refine (q213 _ _ _ ?_).1|refine (q218 _ _ _ ?_).1|refine (q144 _ _ _ ?_).1|refine (q259 _ _ _ ?_).1|refine (q215 _ _ _ ?_).1|refine (q217 _ _ _ ?_).1|refine (q214d3 _ _ _ ?_ (wfN _ (by decide) (by decide))).1|refine (q143 _ _ _ ?_).1)),rfl⟩
    | exact ⟨_,_,_,_,(by repeat (first|exact ok|exact ok1|exact ok2|refine byteI_ok ?_|refine (q212 _ _ _ ?_).1|refine (q213 _ _ _ ?_).1|refine (q218 _ _ _ ?_).1|refine (q144 _ _ _ ?_).1|refine (q259 _ _ _ ?_).1|refine (q215 _ _ _ ?_).1|refine (q217 _ _ _ ?_).1|refine (q214d3 _ _ _ ?_ (wfN _ (by decide) (by decide))).1|refine (q143 _ _ _ ?_).1)),rfl⟩
    | exact ⟨_,rfl⟩
    | exact ⟨_,_,rfl⟩
    | ((with_reducible show (_:Nat)≤_);show (g143 [curA 5 rows i h0]).1.l.length+1≤maxLen;simp only [maxLen];omega)
    | ((with_reducible show (_:Nat)≤_);show ((g143 [curA 5 rows i h0]).1.l.length+1) * 112≤140737488355328;omega)
    | ((with_reducible show (_:Nat)≤_);show (g143 [curA 5 rows i h0]).1.c.length+1≤maxLen;simp only [maxLen];omega)
    | ((with_reducible show (_:Nat)≤_);show ((g143 [curA 5 rows i h0]).1.c.length+1) * 16≤140737488355328;omega)
    | ((with_reducible show (_:Nat)≤_);show (g143 [curA 5 rows i h0]).1.r.length+1≤maxLen;simp only [maxLen];omega)
    | ((with_reducible show (_:Nat)≤_);show ((g143 [curA 5 rows i h0]).1.r.length+1) * 48≤140737488355328;omega)
    | ((with_reducible show (_:Nat)≤_);show (g143 [curA 5 rows i h0]).1.t.size+3≤maxLen;simp only [maxLen];omega)
    | ((with_reducible show ∃ _,_);refine ⟨(⟨(g143 [curA 5 rows i h0]).1.k,IntKind.i64.wrap ((g143 [curA 5 rows i h0]).1.n+1000000000),(g143 [curA 5 rows i h0]).1.s,(g143 [curA 5 rows i h0]).1.t,(g143 [curA 5 rows i h0]).1.l,(g143 [curA 5 rows i h0]).1.c,(g143 [curA 5 rows i h0]).1.r⟩,(byteI rows (g143 [curA 5 rows i h0]).2.1),(byteH (g143 [curA 5 rows i h0]).2.2)),⟨byteI_ok hcur,hk,wrap_inK _ _,hs,(by (show (g143 [curA 5 rows i h0]).1.t.size+(g143 [curA 5 rows i h0]).1.l.length+wRows (g143 [curA 5 rows i h0]).1.l+(g143 [curA 5 rows i h0]).1.c.length+wRows (g143 [curA 5 rows i h0]).1.c+(g143 [curA 5 rows i h0]).1.r.length+wRows (g143 [curA 5 rows i h0]).1.r≤40000;omega)),hl,hc,hr⟩,rfl,rfl,True.intro⟩)
    | ((with_reducible show ∃ _,_);refine ⟨(⟨(g143 [curA 5 rows i h0]).1.k,(g143 [curA 5 rows i h0]).1.n,(g143 [curA 5 rows i h0]).1.s,(g143 [curA 5 rows i h0]).1.t++⟨#[120,34,121]⟩,(g143 [curA 5 rows i h0]).1.l,(g143 [curA 5 rows i h0]).1.c,(g143 [curA 5 rows i h0]).1.r⟩,(byteI rows (g143 [curA 5 rows i h0]).2.1),(byteH (g143 [curA 5 rows i h0]).2.2)),⟨byteI_ok hcur,hk,hn,hs,(by (show ((g143 [curA 5 rows i h0]).1.t++⟨#[120,34,121]⟩).size+(g143 [curA 5 rows i h0]).1.l.length+wRows (g143 [curA 5 rows i h0]).1.l+(g143 [curA 5 rows i h0]).1.c.length+wRows (g143 [curA 5 rows i h0]).1.c+(g143 [curA 5 rows i h0]).1.r.length+wRows (g143 [curA 5 rows i h0]).1.r≤40000;rw [ByteArray.size_append];show (g143 [curA 5 rows i h0]).1.t.size+3+(g143 [curA 5 rows i h0]).1.l.length+wRows (g143 [curA 5 rows i h0]).1.l+(g143 [curA 5 rows i h0]).1.c.length+wRows (g143 [curA 5 rows i h0]).1.c+(g143 [curA 5 rows i h0]).1.r.length+wRows (g143 [curA 5 rows i h0]).1.r≤40000;omega)),hl,hc,hr⟩,rfl,rfl,True.intro⟩)
    | ((with_reducible show ∃ _,_);refine ⟨(⟨belowR rows (byteI rows (g143 [curA 5 rows i h0]).2.1) (byteH (g143 [curA 5 rows i h0]).2.2) 8,(g143 [curA 5 rows i h0]).1.n,(g143 [curA 5 rows i h0]).1.s,(g143 [curA 5 rows i h0]).1.t,(g143 [curA 5 rows i h0]).1.l,(g143 [curA 5 rows i h0]).1.c,(g143 [curA 5 rows i h0]).1.r⟩,(byteI rows (byteI rows (g143 [curA 5 rows i h0]).2.1)),(byteH (byteH (g143 [curA 5 rows i h0]).2.2))),⟨byteI_ok (byteI_ok hcur),small_in (n:=belowR rows (byteI rows (g143 [curA 5 rows i h0]).2.1) (byteH (g143 [curA 5 rows i h0]).2.2) 8) (by have:=belowR_in (rows:=rows) (i:=(byteI rows (g143 [curA 5 rows i h0]).2.1)) (h:=(byteH (g143 [curA 5 rows i h0]).2.2)) (n:=8) ⟨by decide,by decide⟩;omega),hn,hs,(by (show (g143 [curA 5 rows i h0]).1.t.size+(g143 [curA 5 rows i h0]).1.l.length+wRows (g143 [curA 5 rows i h0]).1.l+(g143 [curA 5 rows i h0]).1.c.length+wRows (g143 [curA 5 rows i h0]).1.c+(g143 [curA 5 rows i h0]).1.r.length+wRows (g143 [curA 5 rows i h0]).1.r≤40000;omega)),hl,hc,hr⟩,rfl,rfl,True.intro⟩)
    | ((with_reducible show ∃ _,_);refine ⟨(⟨(g143 [curA 5 rows i h0]).1.k,(g143 [curA 5 rows i h0]).1.n,7,(g143 [curA 5 rows i h0]).1.t,(g143 [curA 5 rows i h0]).1.l,(g143 [curA 5 rows i h0]).1.c,(g143 [curA 5 rows i h0]).1.r⟩,(byteI rows (g143 [curA 5 rows i h0]).2.1),(byteH (g143 [curA 5 rows i h0]).2.2)),⟨byteI_ok hcur,hk,hn,(show inK .i64 7 from ⟨by decide,by decide⟩),(by (show (g143 [curA 5 rows i h0]).1.t.size+(g143 [curA 5 rows i h0]).1.l.length+wRows (g143 [curA 5 rows i h0]).1.l+(g143 [curA 5 rows i h0]).1.c.length+wRows (g143 [curA 5 rows i h0]).1.c+(g143 [curA 5 rows i h0]).1.r.length+wRows (g143 [curA 5 rows i h0]).1.r≤40000;omega)),hl,hc,hr⟩,rfl,rfl,True.intro⟩)
    | ((with_reducible show ∃ _,_);have y:=(q143 rows (byteI rows (g143 [curA 5 rows i h0]).2.1) (byteH (g143 [curA 5 rows i h0]).2.2) (byteI_ok hcur)).2;have yc:=(q143 rows (byteI rows (g143 [curA 5 rows i h0]).2.1) (byteH (g143 [curA 5 rows i h0]).2.2) (byteI_ok hcur)).1;have yw:=y.2.2.2.1;refine ⟨(⟨(g143 [curA 5 rows i h0]).1.k,(g143 [curA 5 rows i h0]).1.n,(g143 [curA 5 rows i h0]).1.s,(g143 [curA 5 rows i h0]).1.t,(g143 [curA 5 rows i h0]).1.l++([]++[VL.row (g143 [curA 5 rows (byteI rows (g143 [curA 5 rows i h0]).2.1) (byteH (g143 [curA 5 rows i h0]).2.2)]).1]),(g143 [curA 5 rows i h0]).1.c,(g143 [curA 5 rows i h0]).1.r⟩,(g143 [curA 5 rows (byteI rows (g143 [curA 5 rows i h0]).2.1) (byteH (g143 [curA 5 rows i h0]).2.2)]).2.1,(g143 [curA 5 rows (byteI rows (g143 [curA 5 rows i h0]).2.1) (byteH (g143 [curA 5 rows i h0]).2.2)]).2.2),⟨yc,hk,hn,hs,(by (show (g143 [curA 5 rows i h0]).1.t.size+((g143 [curA 5 rows i h0]).1.l++[VL.row (g143 [curA 5 rows (byteI rows (g143 [curA 5 rows i h0]).2.1) (byteH (g143 [curA 5 rows i h0]).2.2)]).1]).length+wRows ((g143 [curA 5 rows i h0]).1.l++[VL.row (g143 [curA 5 rows (byteI rows (g143 [curA 5 rows i h0]).2.1) (byteH (g143 [curA 5 rows i h0]).2.2)]).1])+(g143 [curA 5 rows i h0]).1.c.length+wRows (g143 [curA 5 rows i h0]).1.c+(g143 [curA 5 rows i h0]).1.r.length+wRows (g143 [curA 5 rows i h0]).1.r≤40000;rw [List.length_append,wRows_append,wRows1,VL.w];show (g143 [curA 5 rows i h0]).1.t.size+((g143 [curA 5 rows i h0]).1.l.length+1)+_+(g143 [curA 5 rows i h0]).1.c.length+wRows (g143 [curA 5 rows i h0]).1.c+(g143 [curA 5 rows i h0]).1.r.length+wRows (g143 [curA 5 rows i h0]).1.r≤40000;omega)),hl.add rfl (by simp only [maxLen];omega) (y.wf (by decide)),hc,hr⟩,rfl,rfl,True.intro⟩)
    | ((with_reducible show ∃ _,_);refine ⟨(⟨(g143 [curA 5 rows i h0]).1.k,(g143 [curA 5 rows i h0]).1.n,(g143 [curA 5 rows i h0]).1.s,(g143 [curA 5 rows i h0]).1.t,(g143 [curA 5 rows i h0]).1.l,(g143 [curA 5 rows i h0]).1.c,(g143 [curA 5 rows i h0]).1.r++([]++[[D.l ([]++[[D.i 1]]),D.l ([]++[[D.i 2,D.i 1]]++[[D.i 1,D.i 1]])]])⟩,(byteI rows (g143 [curA 5 rows i h0]).2.1),(byteH (g143 [curA 5 rows i h0]).2.2)),⟨byteI_ok hcur,hk,hn,hs,(by (show (g143 [curA 5 rows i h0]).1.t.size+(g143 [curA 5 rows i h0]).1.l.length+wRows (g143 [curA 5 rows i h0]).1.l+(g143 [curA 5 rows i h0]).1.c.length+wRows (g143 [curA 5 rows i h0]).1.c+((g143 [curA 5 rows i h0]).1.r ++  [[D.l ([]++[[D.i 1]]),D.l ([]++[[D.i 2,D.i 1]]++[[D.i 1,D.i 1]])]]).length+wRows ((g143 [curA 5 rows i h0]).1.r ++  [[D.l ([]++[[D.i 1]]),D.l ([]++[[D.i 2,D.i 1]]++[[D.i 1,D.i 1]])]])≤40000;rw [List.length_append,wRows_append];show (g143 [curA 5 rows i h0]).1.t.size+(g143 [curA 5 rows i h0]).1.l.length+wRows (g143 [curA 5 rows i h0]).1.l+(g143 [curA 5 rows i h0]).1.c.length+wRows (g143 [curA 5 rows i h0]).1.c+((g143 [curA 5 rows i h0]).1.r.length+1)+(wRows (g143 [curA 5 rows i h0]).1.r+3)≤40000;omega)),hl,hc,hr.add rfl (by simp only [maxLen];omega) (wfCells (wfInts rfl rfl (by decide) (by intro r hr;simp only [rowsIn,List.nil_append,List.cons_append,List.mem_cons,List.not_mem_nil,or_false] at hr;rcases hr with rfl <;> exact ⟨_,rfl,by decide,by decide⟩)) (wfPairs2 rfl))⟩,rfl,rfl,True.intro⟩)
    | ((with_reducible show ∃ _,_);have y:=(q144 rows (byteI rows (g143 [curA 5 rows i h0]).2.1) (byteH (g143 [curA 5 rows i h0]).2.2) (byteI_ok hcur)).2;have yc:=(q144 rows (byteI rows (g143 [curA 5 rows i h0]).2.1) (byteH (g143 [curA 5 rows i h0]).2.2) (byteI_ok hcur)).1;have y:(g144 [curA 5 rows (byteI rows (g143 [curA 5 rows i h0]).2.1) (byteH (g143 [curA 5 rows i h0]).2.2)]).1.size≤20:=y;refine ⟨(⟨(g143 [curA 5 rows i h0]).1.k,(g143 [curA 5 rows i h0]).1.n,(g143 [curA 5 rows i h0]).1.s,(g143 [curA 5 rows i h0]).1.t,(g143 [curA 5 rows i h0]).1.l,(g143 [curA 5 rows i h0]).1.c++([]++[[D.s (g144 [curA 5 rows (byteI rows (g143 [curA 5 rows i h0]).2.1) (byteH (g143 [curA 5 rows i h0]).2.2)]).1]]),(g143 [curA 5 rows i h0]).1.r⟩,(g144 [curA 5 rows (byteI rows (g143 [curA 5 rows i h0]).2.1) (byteH (g143 [curA 5 rows i h0]).2.2)]).2.1,(g144 [curA 5 rows (byteI rows (g143 [curA 5 rows i h0]).2.1) (byteH (g143 [curA 5 rows i h0]).2.2)]).2.2),⟨yc,hk,hn,hs,(by (show (g143 [curA 5 rows i h0]).1.t.size+(g143 [curA 5 rows i h0]).1.l.length+wRows (g143 [curA 5 rows i h0]).1.l+((g143 [curA 5 rows i h0]).1.c++[[D.s (g144 [curA 5 rows (byteI rows (g143 [curA 5 rows i h0]).2.1) (byteH (g143 [curA 5 rows i h0]).2.2)]).1]]).length+wRows ((g143 [curA 5 rows i h0]).1.c++[[D.s (g144 [curA 5 rows (byteI rows (g143 [curA 5 rows i h0]).2.1) (byteH (g143 [curA 5 rows i h0]).2.2)]).1]])+(g143 [curA 5 rows i h0]).1.r.length+wRows (g143 [curA 5 rows i h0]).1.r≤40000;rw [List.length_append,wRows_append];show (g143 [curA 5 rows i h0]).1.t.size+(g143 [curA 5 rows i h0]).1.l.length+wRows (g143 [curA 5 rows i h0]).1.l+((g143 [curA 5 rows i h0]).1.c.length+1)+(wRows (g143 [curA 5 rows i h0]).1.c+((g144 [curA 5 rows (byteI rows (g143 [curA 5 rows i h0]).2.1) (byteH (g143 [curA 5 rows i h0]).2.2)]).1.size+0+0))+(g143 [curA 5 rows i h0]).1.r.length+wRows (g143 [curA 5 rows i h0]).1.r≤40000;omega)),hl,hc.add rfl (by simp only [maxLen];omega) (wfStr1 y),hr⟩,rfl,rfl,True.intro⟩)
    | ((with_reducible show ∃ _,_);refine ⟨(⟨(g143 [curA 5 rows i h0]).1.k,(g143 [curA 5 rows i h0]).1.n,(g143 [curA 5 rows i h0]).1.s,(g143 [curA 5 rows i h0]).1.t,(g143 [curA 5 rows i h0]).1.l,(g143 [curA 5 rows i h0]).1.c,(g143 [curA 5 rows i h0]).1.r⟩,(byteI rows (g143 [curA 5 rows i h0]).2.1),(byteH (g143 [curA 5 rows i h0]).2.2)),⟨byteI_ok hcur,hk,hn,hs,(by (show (g143 [curA 5 rows i h0]).1.t.size+(g143 [curA 5 rows i h0]).1.l.length+wRows (g143 [curA 5 rows i h0]).1.l+(g143 [curA 5 rows i h0]).1.c.length+wRows (g143 [curA 5 rows i h0]).1.c+(g143 [curA 5 rows i h0]).1.r.length+wRows (g143 [curA 5 rows i h0]).1.r≤40000;omega)),hl,hc,hr⟩,rfl,rfl,True.intro⟩)
    | skip
  all_goals first
    | skip
end Go.Proofs.YtppgalpldaibhaaGreatDoor.Ab
