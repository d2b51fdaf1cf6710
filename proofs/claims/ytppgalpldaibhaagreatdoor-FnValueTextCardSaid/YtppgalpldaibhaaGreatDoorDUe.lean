/- Draws of values and of their texts: printed by a program of this claim. -/
import Derived.Test.YtppgalpldaibhaaGreatDoorDUd
import Derived.Test.YtppgalpldaibhaaGreatDoorDUc
import Derived.Test.YtppgalpldaibhaaGreatDoorDYg
namespace Go.Proofs.YtppgalpldaibhaaGreatDoor.Ab
open Go.RowKit
set_option linter.unusedVariables false
set_option linter.unusedSimpArgs false
set_option maxRecDepth 100000
set_option maxHeartbeats 2000000
theorem any126:∃ g:List SV→Int × Int × Int,FOk Tryz.prog T 126 { pre:=fun a=>∃ rows i h0 n,CurOk rows i∧(1≤n∧n≤1048577)∧a=[curA 5 rows i h0,.val false [.i .i64 n]],res:=fun a=>(fun (x:Int × Int × Int)=>.val false [.i .i64 x.1]) (g a),bx:=true,upd:=fun a=>curU 5 a (g a).2.1 (g a).2.2 } ∧
    ∀ cs args,(fun a=>∃ rows i h0 n,CurOk rows i∧(1≤n∧n≤1048577)∧a=[curA 5 rows i h0,.val false [.i .i64 n]]) (.tup [(true,cs)] :: args)→(∀ a ∈ args,WfSV T a)→(fun (a:List SV) (x:Int × Int × Int)=>CurOk (rowsOf a) x.2.1∧(fun x:Int=>0≤x∧x < nOf a) x.1) (.tup [(true,cs)] :: args) (g (.tup [(true,cs)] :: args)):=by
  refine fokBA (α:=Int × Int × Int) (fun _ x=>.val false [.i .i64 x.1]) (fun a x=>curU 5 a x.2.1 x.2.2) (post:=fun a x=>CurOk (rowsOf a) x.2.1∧(fun x:Int=>0≤x∧x < nOf a) x.1) (env:=envL [(200,(spByte 5))]) (N:=37) tabT (envL_cons ok200 envL_nil) mixed Tryz.func126 rfl Tryz.call126 Tryz.ntmps126 ?_
  rintro cs args ⟨rows,i,h0,n,ok,hn,he⟩ hwf
  obtain ⟨rfl,rfl⟩:cs=curC 5 rows i h0∧args=[.val false [.i .i64 n]]:=by simpa only [List.cons.injEq,SV.tup.injEq,Prod.mk.injEq,true_and,and_true] using he
  refine ⟨by simp,?_⟩
  clear he
  rw [Tryz.results126]
  repeat' first
    | (refine And.intro ?_ ?_)
    | (intro h;simp only [reduceCtorEq] at h;done)
    | (intro h;rw [h])
    | (intro h)
  all_goals first
    | (show lowEdges _=true;kernel_rfl)|(show logOk _ _=true;kernel_rfl)|exact True.intro|exact Or.inr rfl|exact Or.inl rfl
    | (show Alive _ _;rfl)
    | (show List.length _=_;rfl)
    | exact ⟨_,_,_,_,(by repeat (first|exact ok|exact ok1|exact ok2|refine byteI_ok ?_|refine (q212 _ _ _ ?_).1|refine (q213 _ _ _ ?_).1|refine (q218 _ _ _ ?_).1|refine (q144 _ _ _ ?_).1|refine (q259 _ _ _ ?_).1|refine (q215 _ _ _ ?_).1|refine (q217 _ _ _ ?_).1|refine (q214d3 _ _ _ ?_ (wfN _ (by decide) (by decide))).1|refine (q143 _ _ _ ?_).1|refine (q71 _ _ _ ?_).1)),hl,rfl⟩
    | exact ⟨_,_,_,_,(by repeat (first|exact ok|exact ok1|exact ok2|refine byteI_ok ?_|refine (q212 _ _ _ ?_).1|refine (q213 _ _ _ ?_).1|refine (q218 _ _ _ ?_).1|refine (q144 _ _ _ ?_).1|refine (q259 _ _ _ ?_).1|refine (q215 _ _ _ ?_).1|refine (q217 _ _ _ ?_).1|refine (q214d3 _ _ _ ?_ (wfN _ (by decide) (by decide))).1|refine (q143 _ _ _ ?_).1|refine (q71 _ _ _ ?_).1)),⟨by decide,by decide⟩,rfl⟩
    | exact ⟨_,_,_,(by repeat (first|exact ok|exact ok1|exact ok2|refine byteI_ok ?_|refine (q212 _ _ _ ?_).1|refine (q213 _ _ _ ?_).1|refine (q218 _ _ _ ?_).1|refine (q144 _ _ _ ?_).1|refine (q259 _ _ _ ?_).1|refine (q215 _ _ _ ?_).1|refine (q217 _ _ _ ?_).1|refine (q214d3 _ _ _ ?_ (wfN _ (by decide) (by decide))).1|refine (q143 _ _ _ ?_).1|refine (q71 _ _ _ ?_).1)),rfl⟩
    | exact ⟨_,_,_,_,(by repeat (first|exact ok|exact ok1|exact ok2|refine byteI_ok ?_|refine (q212 _ _ _ ?_).1|refine (q213 _ _ _ ?_).1|refine (q218 _ _ _ ?_).1|refine (q144 _ _ _ ?_).1|refine (q259 _ _ _ ?_).1|refine (q215 _ _ _ ?_).1|refine (q217 _ _ _ ?_).1|refine (q214d3 _ _ _ ?_ (wfN _ (by decide) (by decide))).1|refine (q143 _ _ _ ?_).1|refine (q71 _ _ _ ?_).1)),rfl⟩
    | (exfalso;have h2:=of_decide_eq_true h;have:=hn.1;omega)
    | exact tmK (byteR_in _ _ _).1 hn
    | exact (tmK (byteR_in _ _ _).1 hn).1
    | exact (tmK (byteR_in _ _ _).1 hn).2
    | exact (tmK big4 hn).1
    | exact (tmK big4 hn).2
    | refine ⟨(_,_,_),?_,rfl,rfl,True.intro⟩
    | skip
  all_goals first
    | exact ⟨byteI_ok ok,tm_in (byteR_in _ _ _).1 hn.1⟩
    | exact ⟨byteI_ok (byteI_ok (byteI_ok (byteI_ok ok))),tm_in big4 hn.1⟩
    | (have:=hn.1;omega)
    | skip
theorem any87:∃ g:List SV→ByteArray × Int × Int,FOk Tryz.prog T 87 { pre:=fun a=>∃ rows i h0 s l,CurOk rows i∧(s.size≤2000∧smallN (l.length:Int)∧∀ k,(((l.getD k []).getD 0 default).str).size≤20)∧a=[curA 5 rows i h0,.val false [.s s],argS 9 l],res:=fun a=>(fun (x:ByteArray × Int × Int)=>.val false [.s x.1]) (g a),bx:=true,upd:=fun a=>curU 5 a (g a).2.1 (g a).2.2 } ∧
    ∀ cs args,(fun a=>∃ rows i h0 s l,CurOk rows i∧(s.size≤2000∧smallN (l.length:Int)∧∀ k,(((l.getD k []).getD 0 default).str).size≤20)∧a=[curA 5 rows i h0,.val false [.s s],argS 9 l]) (.tup [(true,cs)] :: args)→(∀ a ∈ args,WfSV T a)→(fun (a:List SV) (x:ByteArray × Int × Int)=>CurOk (rowsOf a) x.2.1∧(fun x:ByteArray=>x.size≤4020) x.1) (.tup [(true,cs)] :: args) (g (.tup [(true,cs)] :: args)):=by
  obtain ⟨g126,k126,p126⟩:=any126
  have q126:∀ (rows:List (List D)) (i h0:Int) (n:Int),CurOk rows i→(1≤n∧n≤1048577)→(∀ a ∈ ([.val false [.i .i64 n]]:List SV),WfSV T a)→CurOk rows (g126 [curA 5 rows i h0,.val false [.i .i64 n]]).2.1∧(fun (a:List SV) (x:Int)=>0≤x∧x < nOf a) [curA 5 rows i h0,.val false [.i .i64 n]] (g126 [curA 5 rows i h0,.val false [.i .i64 n]]).1:=fun rows i h0 n ok hp hw=>p126 _ _ ⟨rows,i,h0,n,ok,hp,rfl⟩ (hw)
  clear p126
  refine fokBA (α:=ByteArray × Int × Int) (fun _ x=>.val false [.s x.1]) (fun a x=>curU 5 a x.2.1 x.2.2) (post:=fun a x=>CurOk (rowsOf a) x.2.1∧(fun x:ByteArray=>x.size≤4020) x.1) (env:=envL [(126, { pre:=fun a=>∃ rows i h0 n,CurOk rows i∧(1≤n∧n≤1048577)∧a=[curA 5 rows i h0,.val false [.i .i64 n]],res:=fun a=>(fun (x:Int × Int × Int)=>.val false [.i .i64 x.1]) (g126 a),bx:=true,upd:=fun a=>curU 5 a (g126 a).2.1 (g126 a).2.2 }),(167,(spPick 5 9))]) (N:=34) tabT (envL_cons k126 (envL_cons ok167 envL_nil)) mixed Tryz.func87 rfl Tryz.call87 Tryz.ntmps87 ?_
  rintro cs args ⟨rows,i,h0,s,l,ok,⟨hs,hl,hp⟩,he⟩ hwf
  obtain ⟨rfl,rfl⟩:cs=curC 5 rows i h0∧args=[.val false [.s s],argS 9 l]:=by simpa only [List.cons.injEq,SV.tup.injEq,Prod.mk.injEq,true_and,and_true] using he
  refine ⟨by simp,?_⟩
  clear he
  rw [Tryz.results87]
  have hw:IntKind.i64.wrap ((s.size:Int)+1)=(s.size:Int)+1:=wrap_i64_in (by omega) (by omega)
  obtain ⟨hcur,ha0,ha1⟩:=q126 rows i h0 (IntKind.i64.wrap ((s.size:Int)+1)) ok (by rw [hw];omega) (wfN _ (by rw [hw];exact (wfI (by omega)).1) (by rw [hw];exact (wfI (by omega)).2))
  have ha1:(g126 [curA 5 rows i h0,.val false [.i .i64 (IntKind.i64.wrap ((s.size:Int)+1))]]).1 < (s.size:Int)+1:=Int.lt_of_lt_of_le ha1 (Int.le_of_eq hw)
  have ha2:(g126 [curA 5 rows i h0,.val false [.i .i64 (IntKind.i64.wrap ((s.size:Int)+1))]]).1.toNat≤s.size:=by omega
  have ha0:0≤(g126 [curA 5 rows i h0,.val false [.i .i64 (IntKind.i64.wrap ((s.size:Int)+1))]]).1:=ha0
  repeat' first
    | (refine And.intro ?_ ?_)
    | (intro h;simp only [reduceCtorEq] at h;done)
    | (intro h;rw [h])
    | (intro h)
  all_goals first
    | (show lowEdges _=true;kernel_rfl)|(show logOk _ _=true;kernel_rfl)|exact True.intro|exact Or.inr rfl|exact Or.inl rfl
    | (show Alive _ _;rfl)
    | (show List.length _=_;rfl)
    | exact ⟨_,_,_,_,(by repeat (first|exact ok|exact ok1|exact ok2|refine byteI_ok ?_|refine (q212 _ _ _ ?_).1|refine (q213 _ _ _ ?_).1|refine (q218 _ _ _ ?_).1|refine (q144 _ _ _ ?_).1|refine (q259 _ _ _ ?_).1|refine (q215 _ _ _ ?_).1|refine (q217 _ _ _ ?_).1|refine (q214d3 _ _ _ ?_ (wfN _ (by decide) (by decide))).1|refine (q143 _ _ _ ?_).1|refine (q71 _ _ _ ?_).1|exact hcur|refine (q126 _ _ _ _ ?_ ⟨by decide,by decide⟩ (wfN _ (by decide) (by decide))).1)),hl,rfl⟩
    | exact ⟨_,_,_,_,(by repeat (first|exact ok|exact ok1|exact ok2|refine byteI_ok ?_|refine (q212 _ _ _ ?_).1|refine (q213 _ _ _ ?_).1|refine (q218 _ _ _ ?_).1|refine (q144 _ _ _ ?_).1|refine (q259 _ _ _ ?_).1|refine (q215 _ _ _ ?_).1|refine (q217 _ _ _ ?_).1|refine (q214d3 _ _ _ ?_ (wfN _ (by decide) (by decide))).1|refine (q143 _ _ _ ?_).1|refine (q71 _ _ _ ?_).1|exact hcur|refine (q126 _ _ _ _ ?_ ⟨by decide,by decide⟩ (wfN _ (by decide) (by decide))).1)),⟨by decide,by decide⟩,rfl⟩
    | exact ⟨_,_,_,(by repeat (first|exact ok|exact ok1|exact ok2|refine byteI_ok ?_|refine (q212 _ _ _ ?_).1|refine (q213 _ _ _ ?_).1|refine (q218 _ _ _ ?_).1|refine (q144 _ _ _ ?_).1|refine (q259 _ _ _ ?_).1|refine (q215 _ _ _ ?_).1|refine (q217 _ _ _ ?_).1|refine (q214d3 _ _ _ ?_ (wfN _ (by decide) (by decide))).1|refine (q143 _ _ _ ?_).1|refine (q71 _ _ _ ?_).1|exact hcur|refine (q126 _ _ _ _ ?_ ⟨by decide,by decide⟩ (wfN _ (by decide) (by decide))).1)),rfl⟩
    | exact ⟨_,_,_,_,(by repeat (first|exact ok|exact ok1|exact ok2|refine byteI_ok ?_|refine (q212 _ _ _ ?_).1|refine (q213 _ _ _ ?_).1|refine (q218 _ _ _ ?_).1|refine (q144 _ _ _ ?_).1|refine (q259 _ _ _ ?_).1|refine (q215 _ _ _ ?_).1|refine (q217 _ _ _ ?_).1|refine (q214d3 _ _ _ ?_ (wfN _ (by decide) (by decide))).1|refine (q143 _ _ _ ?_).1|refine (q71 _ _ _ ?_).1|exact hcur|refine (q126 _ _ _ _ ?_ ⟨by decide,by decide⟩ (wfN _ (by decide) (by decide))).1)),rfl⟩
    | exact ⟨_,_,_,_,ok,(by rw [hw];omega),rfl⟩
    | exact Int.le_refl 0
    | exact ha0
    | exact Int.le_of_lt_add_one ha1
    | exact Int.le_refl _
    | exact sum2 (ex_le hs) (hp _)
    | exact sum3 (ex_le hs) (hp _) (ex_le hs)
    | refine ⟨(_,_,_),?_,rfl,rfl,True.intro⟩
    | skip
  all_goals first
    | exact ⟨(by repeat (first|exact ok|exact ok1|exact ok2|refine byteI_ok ?_|refine (q212 _ _ _ ?_).1|refine (q213 _ _ _ ?_).1|refine (q218 _ _ _ ?_).1|refine (q144 _ _ _ ?_).1|refine (q259 _ _ _ ?_).1|refine (q215 _ _ _ ?_).1|refine (q217 _ _ _ ?_).1|refine (q214d3 _ _ _ ?_ (wfN _ (by decide) (by decide))).1|refine (q143 _ _ _ ?_).1|refine (q71 _ _ _ ?_).1|exact hcur|refine (q126 _ _ _ _ ?_ ⟨by decide,by decide⟩ (wfN _ (by decide) (by decide))).1)),cat3 (ex_le hs) (hp _) (ex_le hs)⟩
    | exact ⟨(by repeat (first|exact ok|exact ok1|exact ok2|refine byteI_ok ?_|refine (q212 _ _ _ ?_).1|refine (q213 _ _ _ ?_).1|refine (q218 _ _ _ ?_).1|refine (q144 _ _ _ ?_).1|refine (q259 _ _ _ ?_).1|refine (q215 _ _ _ ?_).1|refine (q217 _ _ _ ?_).1|refine (q214d3 _ _ _ ?_ (wfN _ (by decide) (by decide))).1|refine (q143 _ _ _ ?_).1|refine (q71 _ _ _ ?_).1|exact hcur|refine (q126 _ _ _ _ ?_ ⟨by decide,by decide⟩ (wfN _ (by decide) (by decide))).1)),le2 (ex_le hs)⟩
    | exact ⟨(by repeat (first|exact ok|exact ok1|exact ok2|refine byteI_ok ?_|refine (q212 _ _ _ ?_).1|refine (q213 _ _ _ ?_).1|refine (q218 _ _ _ ?_).1|refine (q144 _ _ _ ?_).1|refine (q259 _ _ _ ?_).1|refine (q215 _ _ _ ?_).1|refine (q217 _ _ _ ?_).1|refine (q214d3 _ _ _ ?_ (wfN _ (by decide) (by decide))).1|refine (q143 _ _ _ ?_).1|refine (q71 _ _ _ ?_).1|exact hcur|refine (q126 _ _ _ _ ?_ ⟨by decide,by decide⟩ (wfN _ (by decide) (by decide))).1)),le2 hs⟩
    | skip
theorem any26:∃ g:List SV→ByteArray,FOk Tryz.prog T 26 { pre:=fun a=>∃ rows:List (List D),rows.length≤1048576∧a=[argS 5 rows],res:=fun a=>(fun (x:ByteArray)=>.val false [.s x]) (g a) }∧∀ a,(fun a=>∃ rows:List (List D),rows.length≤1048576∧a=[argS 5 rows]) a→(∀ b ∈ a,WfSV T b)→(fun x:ByteArray=>x.size≤4020) (g a):=by
  obtain ⟨g71,k71,p71⟩:=any71
  have q71:∀ (rows:List (List D)) (i h0:Int),CurOk rows i→CurOk rows (g71 [curA 5 rows i h0]).2.1∧(fun (a:List SV) (x:VL)=>VL.ok T 33 9 91 40000 x) [curA 5 rows i h0] (g71 [curA 5 rows i h0]).1:=fun rows i h0 ok=>p71 _ _ ⟨rows,i,h0,ok,rfl⟩ (by intro a ha;cases ha)
  clear p71
  obtain ⟨g87,k87,p87⟩:=any87
  have q87:∀ (rows:List (List D)) (i h0:Int) (s:ByteArray) (l:List (List D)),CurOk rows i→(s.size≤2000∧smallN (l.length:Int)∧∀ k,(((l.getD k []).getD 0 default).str).size≤20)→(∀ a ∈ ([.val false [.s s],argS 9 l]:List SV),WfSV T a)→CurOk rows (g87 [curA 5 rows i h0,.val false [.s s],argS 9 l]).2.1∧(fun (a:List SV) (x:ByteArray)=>x.size≤4020) [curA 5 rows i h0,.val false [.s s],argS 9 l] (g87 [curA 5 rows i h0,.val false [.s s],argS 9 l]).1:=fun rows i h0 s l ok hp hw=>p87 _ _ ⟨rows,i,h0,s,l,ok,hp,rfl⟩ (hw)
  clear p87
  refine fokA (fun _ x=>.val false [.s x]) (post:=fun _ (x:ByteArray)=>x.size≤4020) (env:=envL [(72,(spNewC 5)),(71, { pre:=fun a=>∃ rows i h0,CurOk rows i∧a=[curA 5 rows i h0],res:=fun a=>(fun (x:VL × Int × Int)=>.val true [.i .i64 x.1.k,.i .i64 x.1.n,.i .i64 x.1.s,.s x.1.t,.sl false 33 x.1.l,.sl false 9 x.1.c,.sl false 91 x.1.r]) (g71 a),bx:=true,upd:=fun a=>curU 5 a (g71 a).2.1 (g71 a).2.2 }),(22,(spGT T [.i .i64,.i .i64,.i .i64,.s,.l 33,.l 9,.l 91] SmM fmtO)),(87, { pre:=fun a=>∃ rows i h0 s l,CurOk rows i∧(s.size≤2000∧smallN (l.length:Int)∧∀ k,(((l.getD k []).getD 0 default).str).size≤20)∧a=[curA 5 rows i h0,.val false [.s s],argS 9 l],res:=fun a=>(fun (x:ByteArray × Int × Int)=>.val false [.s x.1]) (g87 a),bx:=true,upd:=fun a=>curU 5 a (g87 a).2.1 (g87 a).2.2 })]) (N:=14) tabT (envL_cons ok72 (envL_cons k71 (envL_cons xk22 (envL_cons k87 envL_nil)))) mixed Tryz.func26 rfl Tryz.call26 Tryz.ntmps26 ?_
  rintro args ⟨rows,hr,rfl⟩ hwf
  refine ⟨by simp,?_⟩
  clear hwf
  rw [Tryz.results26]
  repeat' first
    | (refine And.intro ?_ ?_)
    | (intro h;simp only [reduceCtorEq] at h;done)
    | (intro h;rw [h])
    | (intro h)
  all_goals first
    | (show lowEdges _=true;kernel_rfl)|(show logOk _ _=true;kernel_rfl)|exact True.intro|exact Or.inr rfl|exact Or.inl rfl
    | exact ⟨_,hr,rfl⟩
    | exact ⟨_,_,_,cur0 hr,rfl⟩
    | (show List.length _=_;rfl)
    | exact ⟨VL.row (g71 [curA 5 rows 0 (hOf (bytesL rows))]).1,VL.ok.wf (q71 rows 0 (hOf (bytesL rows)) (cur0 hr)).2 (by decide),(by unfold SmM;rw [VL.w];have h:=(q71 rows 0 (hOf (bytesL rows)) (cur0 hr)).2.2.2.2.1;exact Nat.le_trans h (by decide)),rfl⟩
    | exact ⟨_,_,_,fmtO (VL.row (g71 [curA 5 rows 0 (hOf (bytesL rows))]).1),_,(q71 rows 0 (hOf (bytesL rows)) (cur0 hr)).1,⟨fmtO_size _,⟨by decide,by decide⟩,(fun k=>pick_size (P:=fun t=>t.size≤20) (Nat.zero_le _) (by intro r hr;simp only [rowsIn,List.nil_append,List.cons_append,List.mem_cons,List.not_mem_nil,or_false] at hr;rcases hr with rfl|rfl|rfl|rfl|rfl|rfl|rfl|rfl|rfl|rfl <;> decide) k)⟩,rfl⟩
    | exact ⟨_,(q87 _ _ _ _ _ (q71 rows 0 (hOf (bytesL rows)) (cur0 hr)).1 ⟨fmtO_size _,⟨by decide,by decide⟩,(fun k=>pick_size (P:=fun t=>t.size≤20) (Nat.zero_le _) (by intro r hr;simp only [rowsIn,List.nil_append,List.cons_append,List.mem_cons,List.not_mem_nil,or_false] at hr;rcases hr with rfl|rfl|rfl|rfl|rfl|rfl|rfl|rfl|rfl|rfl <;> decide) k)⟩ (wfTL (Nat.le_trans (fmtO_size _) (by decide)) rfl rfl (by decide) (by intro r hr;simp only [rowsIn,List.nil_append,List.cons_append,List.mem_cons,List.not_mem_nil,or_false] at hr;rcases hr with rfl|rfl|rfl|rfl|rfl|rfl|rfl|rfl|rfl|rfl <;> exact ⟨_,rfl,by decide⟩))).2,rfl,True.intro⟩
    | skip
end Go.Proofs.YtppgalpldaibhaaGreatDoor.Ab
