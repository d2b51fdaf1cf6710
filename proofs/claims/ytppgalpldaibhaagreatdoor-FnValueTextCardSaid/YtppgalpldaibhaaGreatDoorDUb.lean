/- Drawn values: printed by a program of this claim. -/
import Derived.Test.YtppgalpldaibhaaGreatDoorDPB
import Derived.Test.YtppgalpldaibhaaGreatDoorDDb
namespace Go.Proofs.YtppgalpldaibhaaGreatDoor.Ab
open Go.RowKit
set_option linter.unusedVariables false
set_option linter.unusedSimpArgs false
set_option maxRecDepth 100000
set_option maxHeartbeats 2000000
theorem any193:∃ g:List SV→Int × Int × Int,FOk Tryz.prog T 193 { pre:=fun a=>∃ rows i h0 l,CurOk rows i∧smallN (l.length:Int)∧a=[curA 5 rows i h0,argS 3 l],res:=fun a=>(fun (x:Int × Int × Int)=>.val false [.i .i64 x.1]) (g a),bx:=true,upd:=fun a=>curU 5 a (g a).2.1 (g a).2.2 } ∧
    ∀ cs args,(fun a=>∃ rows i h0 l,CurOk rows i∧smallN (l.length:Int)∧a=[curA 5 rows i h0,argS 3 l]) (.tup [(true,cs)] :: args)→(∀ a ∈ args,WfSV T a)→(fun (a:List SV) (x:Int × Int × Int)=>CurOk (rowsOf a) x.2.1∧(fun x:Int=>∀ P:Int→Prop,P 0→(∀ r ∈ rowsIn a,P (r.getD 0 default).int)→P x) x.1) (.tup [(true,cs)] :: args) (g (.tup [(true,cs)] :: args)):=by
  refine fokBA (α:=Int × Int × Int) (fun _ x=>.val false [.i .i64 x.1]) (fun a x=>curU 5 a x.2.1 x.2.2) (post:=fun a x=>CurOk (rowsOf a) x.2.1∧(fun x:Int=>∀ P:Int→Prop,P 0→(∀ r ∈ rowsIn a,P (r.getD 0 default).int)→P x) x.1) (env:=envL [(126,(spBelow 5))]) (N:=12) tabT (envL_cons ok126 envL_nil) mixed Tryz.func193 rfl Tryz.call193 Tryz.ntmps193 ?_
  rintro cs args ⟨rows,i,h0,l,ok,hl,he⟩ hwf
  obtain ⟨rfl,rfl⟩:cs=curC 5 rows i h0∧args=[argS 3 l]:=by simpa only [List.cons.injEq,SV.tup.injEq,Prod.mk.injEq,true_and,and_true] using he
  refine ⟨by simp,?_⟩
  clear he
  rw [Tryz.results193]
  repeat' first
    | (refine And.intro ?_ ?_)
    | (intro h;simp only [reduceCtorEq] at h;done)
    | (intro h;rw [h])
    | (intro h)
  all_goals first
    | (show lowEdges _=true;kernel_rfl)|(show logOk _ _=true;kernel_rfl)|exact True.intro|exact Or.inr rfl|exact Or.inl rfl
    | (show Alive _ _;rfl)
    | (show List.length _=_;rfl)
    | exact ⟨_,_,_,_,(by repeat (first|exact ok|exact ok1|exact ok2|refine byteI_ok ?_)),hl,rfl⟩
    | exact ⟨_,_,_,_,(by repeat (first|exact ok|exact ok1|exact ok2|refine byteI_ok ?_)),⟨by decide,by decide⟩,rfl⟩
    | exact ⟨_,_,_,(by repeat (first|exact ok|exact ok1|exact ok2|refine byteI_ok ?_)),rfl⟩
    | exact ⟨_,_,_,_,(by repeat (first|exact ok|exact ok1|exact ok2|refine byteI_ok ?_)),rfl⟩
    | exact (belowR_in hl).1
    | exact (belowR_in hl).2
    | refine ⟨(_,_,_),?_,rfl,rfl,True.intro⟩
    | skip
  all_goals first
    | exact ⟨(by repeat (first|exact ok|exact ok1|exact ok2|refine byteI_ok ?_)),fun P h0 h=>pick_int h0 h _⟩
    | skip
theorem any212:∃ g:List SV→Int × Int × Int,FOk Tryz.prog T 212 { pre:=fun a=>∃ rows i h0,CurOk rows i∧a=[curA 5 rows i h0],res:=fun a=>(fun (x:Int × Int × Int)=>.val false [.i .i64 x.1]) (g a),bx:=true,upd:=fun a=>curU 5 a (g a).2.1 (g a).2.2 } ∧
    ∀ cs args,(fun a=>∃ rows i h0,CurOk rows i∧a=[curA 5 rows i h0]) (.tup [(true,cs)] :: args)→(∀ a ∈ args,WfSV T a)→(fun (a:List SV) (x:Int × Int × Int)=>CurOk (rowsOf a) x.2.1∧(fun x:Int=>inK .i64 x) x.1) (.tup [(true,cs)] :: args) (g (.tup [(true,cs)] :: args)):=by
  obtain ⟨g193,k193,p193⟩:=any193
  have q193:∀ (rows:List (List D)) (i h0:Int) (l:List (List D)),CurOk rows i→smallN (l.length:Int)→(∀ a ∈ ([argS 3 l]:List SV),WfSV T a)→CurOk rows (g193 [curA 5 rows i h0,argS 3 l]).2.1∧(fun (a:List SV) (x:Int)=>∀ P:Int→Prop,P 0→(∀ r ∈ rowsIn a,P (r.getD 0 default).int)→P x) [curA 5 rows i h0,argS 3 l] (g193 [curA 5 rows i h0,argS 3 l]).1:=fun rows i h0 l ok hp hw=>p193 _ _ ⟨rows,i,h0,l,ok,hp,rfl⟩ (hw)
  clear p193
  refine fokBA (α:=Int × Int × Int) (fun _ x=>.val false [.i .i64 x.1]) (fun a x=>curU 5 a x.2.1 x.2.2) (post:=fun a x=>CurOk (rowsOf a) x.2.1∧(fun x:Int=>inK .i64 x) x.1) (env:=envL [(128,(spOnce 5)),(193, { pre:=fun a=>∃ rows i h0 l,CurOk rows i∧smallN (l.length:Int)∧a=[curA 5 rows i h0,argS 3 l],res:=fun a=>(fun (x:Int × Int × Int)=>.val false [.i .i64 x.1]) (g193 a),bx:=true,upd:=fun a=>curU 5 a (g193 a).2.1 (g193 a).2.2 }),(126,(spBelow 5))]) (N:=11) tabT (envL_cons ok128 (envL_cons k193 (envL_cons ok126 envL_nil))) mixed Tryz.func212 rfl Tryz.call212 Tryz.ntmps212 ?_
  rintro cs args ⟨rows,i,h0,ok,he⟩ hwf
  obtain ⟨rfl,rfl⟩:cs=curC 5 rows i h0∧args=[]:=by simpa only [List.cons.injEq,SV.tup.injEq,Prod.mk.injEq,true_and,and_true] using he
  refine ⟨by simp,?_⟩
  clear he
  rw [Tryz.results212]
  repeat' first
    | (refine And.intro ?_ ?_)
    | (intro h;simp only [reduceCtorEq] at h;done)
    | (intro h;rw [h])
    | (intro h)
  all_goals first
    | (show lowEdges _=true;kernel_rfl)|(show logOk _ _=true;kernel_rfl)|exact True.intro|exact Or.inr rfl|exact Or.inl rfl
    | (show Alive _ _;rfl)
    | (show List.length _=_;rfl)
    | exact ⟨_,_,_,_,(by repeat (first|exact ok|exact ok1|exact ok2|refine byteI_ok ?_)),hl,rfl⟩
    | exact ⟨_,_,_,_,(by repeat (first|exact ok|exact ok1|exact ok2|refine byteI_ok ?_)),⟨by decide,by decide⟩,rfl⟩
    | exact ⟨_,_,_,(by repeat (first|exact ok|exact ok1|exact ok2|refine byteI_ok ?_)),rfl⟩
    | exact ⟨_,_,_,_,(by repeat (first|exact ok|exact ok1|exact ok2|refine byteI_ok ?_)),rfl⟩
    | exact ⟨_,_,_,_,(by repeat (first|exact ok|exact ok1|exact ok2|refine byteI_ok ?_)),⟨by decide,by decide⟩,rfl⟩
    | refine ⟨(_,_,_),?_,rfl,rfl,True.intro⟩
    | skip
  all_goals first
    | exact ⟨(by repeat (first|exact ok|exact ok1|exact ok2|refine byteI_ok ?_|refine (q193 _ _ _ _ ?_ ⟨by decide,by decide⟩ (wfPick (wfInts rfl rfl (by decide) (by intro r hr;simp only [rowsIn,List.nil_append,List.cons_append,List.mem_cons,List.not_mem_nil,or_false] at hr;rcases hr with rfl|rfl|rfl|rfl|rfl <;> exact ⟨_,rfl,by decide,by decide⟩)))).1)),(q193 _ _ _ _ (by repeat (first|exact ok|exact ok1|exact ok2|refine byteI_ok ?_|refine (q193 _ _ _ _ ?_ ⟨by decide,by decide⟩ (wfPick (wfInts rfl rfl (by decide) (by intro r hr;simp only [rowsIn,List.nil_append,List.cons_append,List.mem_cons,List.not_mem_nil,or_false] at hr;rcases hr with rfl|rfl|rfl|rfl|rfl <;> exact ⟨_,rfl,by decide,by decide⟩)))).1)) ⟨by decide,by decide⟩ (wfPick (wfInts rfl rfl (by decide) (by intro r hr;simp only [rowsIn,List.nil_append,List.cons_append,List.mem_cons,List.not_mem_nil,or_false] at hr;rcases hr with rfl|rfl|rfl|rfl|rfl <;> exact ⟨_,rfl,by decide,by decide⟩)))).2 (inK .i64) (zero_inK _) (by intro r hr;simp only [rowsIn,List.nil_append,List.cons_append,List.mem_cons,List.not_mem_nil,or_false] at hr;rcases hr with rfl|rfl|rfl|rfl|rfl <;> exact ⟨by decide,by decide⟩)⟩
    | exact ⟨(by repeat (first|exact ok|exact ok1|exact ok2|refine byteI_ok ?_|refine (q193 _ _ _ _ ?_ ⟨by decide,by decide⟩ (wfPick (wfInts rfl rfl (by decide) (by intro r hr;simp only [rowsIn,List.nil_append,List.cons_append,List.mem_cons,List.not_mem_nil,or_false] at hr;rcases hr with rfl|rfl|rfl|rfl|rfl <;> exact ⟨_,rfl,by decide,by decide⟩)))).1)),wrap_inK _ _⟩
    | skip
theorem any213:∃ g:List SV→ByteArray × Int × Int,FOk Tryz.prog T 213 { pre:=fun a=>∃ rows i h0,CurOk rows i∧a=[curA 5 rows i h0],res:=fun a=>(fun (x:ByteArray × Int × Int)=>.val false [.s x.1]) (g a),bx:=true,upd:=fun a=>curU 5 a (g a).2.1 (g a).2.2 } ∧
    ∀ cs args,(fun a=>∃ rows i h0,CurOk rows i∧a=[curA 5 rows i h0]) (.tup [(true,cs)] :: args)→(∀ a ∈ args,WfSV T a)→(fun (a:List SV) (x:ByteArray × Int × Int)=>CurOk (rowsOf a) x.2.1∧(fun x:ByteArray=>x.size≤20) x.1) (.tup [(true,cs)] :: args) (g (.tup [(true,cs)] :: args)):=by
  refine fokBA (α:=ByteArray × Int × Int) (fun _ x=>.val false [.s x.1]) (fun a x=>curU 5 a x.2.1 x.2.2) (post:=fun a x=>CurOk (rowsOf a) x.2.1∧(fun x:ByteArray=>x.size≤20) x.1) (env:=envL [(167,(spPick 5 9))]) (N:=6) tabT (envL_cons ok167 envL_nil) mixed Tryz.func213 rfl Tryz.call213 Tryz.ntmps213 ?_
  rintro cs args ⟨rows,i,h0,ok,he⟩ hwf
  obtain ⟨rfl,rfl⟩:cs=curC 5 rows i h0∧args=[]:=by simpa only [List.cons.injEq,SV.tup.injEq,Prod.mk.injEq,true_and,and_true] using he
  refine ⟨by simp,?_⟩
  clear he
  rw [Tryz.results213]
  repeat' first
    | (refine And.intro ?_ ?_)
    | (intro h;simp only [reduceCtorEq] at h;done)
    | (intro h;rw [h])
    | (intro h)
  all_goals first
    | (show lowEdges _=true;kernel_rfl)|(show logOk _ _=true;kernel_rfl)|exact True.intro|exact Or.inr rfl|exact Or.inl rfl
    | (show Alive _ _;rfl)
    | (show List.length _=_;rfl)
    | exact ⟨_,_,_,_,(by repeat (first|exact ok|exact ok1|exact ok2|refine byteI_ok ?_|refine (q212 _ _ _ ?_).1)),hl,rfl⟩
    | exact ⟨_,_,_,_,(by repeat (first|exact ok|exact ok1|exact ok2|refine byteI_ok ?_|refine (q212 _ _ _ ?_).1)),⟨by decide,by decide⟩,rfl⟩
    | exact ⟨_,_,_,(by repeat (first|exact ok|exact ok1|exact ok2|refine byteI_ok ?_|refine (q212 _ _ _ ?_).1)),rfl⟩
    | exact ⟨_,_,_,_,(by repeat (first|exact ok|exact ok1|exact ok2|refine byteI_ok ?_|refine (q212 _ _ _ ?_).1)),rfl⟩
    | refine ⟨(_,_,_),?_,rfl,rfl,True.intro⟩
    | skip
  all_goals first
    | exact ⟨(by repeat (first|exact ok|exact ok1|exact ok2|refine byteI_ok ?_|refine (q212 _ _ _ ?_).1)),pick_size (P:=fun t=>t.size≤20) (Nat.zero_le _) (by intro r hr;simp only [rowsIn,List.nil_append,List.cons_append,List.mem_cons,List.not_mem_nil,or_false] at hr;rcases hr with rfl|rfl|rfl|rfl|rfl|rfl|rfl <;> decide) _⟩
    | skip
theorem any218:∃ g:List SV→ByteArray × Int × Int,FOk Tryz.prog T 218 { pre:=fun a=>∃ rows i h0,CurOk rows i∧a=[curA 5 rows i h0],res:=fun a=>(fun (x:ByteArray × Int × Int)=>.val false [.s x.1]) (g a),bx:=true,upd:=fun a=>curU 5 a (g a).2.1 (g a).2.2 } ∧
    ∀ cs args,(fun a=>∃ rows i h0,CurOk rows i∧a=[curA 5 rows i h0]) (.tup [(true,cs)] :: args)→(∀ a ∈ args,WfSV T a)→(fun (a:List SV) (x:ByteArray × Int × Int)=>CurOk (rowsOf a) x.2.1∧(fun x:ByteArray=>x.size≤20) x.1) (.tup [(true,cs)] :: args) (g (.tup [(true,cs)] :: args)):=by
  refine fokBA (α:=ByteArray × Int × Int) (fun _ x=>.val false [.s x.1]) (fun a x=>curU 5 a x.2.1 x.2.2) (post:=fun a x=>CurOk (rowsOf a) x.2.1∧(fun x:ByteArray=>x.size≤20) x.1) (env:=envL [(167,(spPick 5 9))]) (N:=6) tabT (envL_cons ok167 envL_nil) mixed Tryz.func218 rfl Tryz.call218 Tryz.ntmps218 ?_
  rintro cs args ⟨rows,i,h0,ok,he⟩ hwf
  obtain ⟨rfl,rfl⟩:cs=curC 5 rows i h0∧args=[]:=by simpa only [List.cons.injEq,SV.tup.injEq,Prod.mk.injEq,true_and,and_true] using he
  refine ⟨by simp,?_⟩
  clear he
  rw [Tryz.results218]
  repeat' first
    | (refine And.intro ?_ ?_)
    | (intro h;simp only [reduceCtorEq] at h;done)
    | (intro h;rw [h])
    | (intro h)
  all_goals first
    | (show lowEdges _=true;kernel_rfl)|(show logOk _ _=true;kernel_rfl)|exact True.intro|exact Or.inr rfl|exact Or.inl rfl
    | (show Alive _ _;rfl)
    | (show List.length _=_;rfl)
    | exact ⟨_,_,_,_,(by repeat (first|exact ok|exact ok1|exact ok2|refine byteI_ok ?_|refine (q212 _ _ _ ?_).1|refine (q213 _ _ _ ?_).1)),hl,rfl⟩
    | exact ⟨_,_,_,_,(by repeat (first|exact ok|exact ok1|exact ok2|refine byteI_ok ?_|refine (q212 _ _ _ ?_).1|refine (q213 _ _ _ ?_).1)),⟨by decide,by decide⟩,rfl⟩
    | exact ⟨_,_,_,(by repeat (first|exact ok|exact ok1|exact ok2|refine byteI_ok ?_|refine (q212 _ _ _ ?_).1|refine (q213 _ _ _ ?_).1)),rfl⟩
    | exact ⟨_,_,_,_,(by repeat (first|exact ok|exact ok1|exact ok2|refine byteI_ok ?_|refine (q212 _ _ _ ?_).1|refine (q213 _ _ _ ?_).1)),rfl⟩
    | refine ⟨(_,_,_),?_,rfl,rfl,True.intro⟩
    | skip
  all_goals first
    | exact ⟨(by repeat (first|exact ok|exact ok1|exact ok2|refine byteI_ok ?_|refine (q212 _ _ _ ?_).1|refine (q213 _ _ _ ?_).1)),pick_size (P:=fun t=>t.size≤20) (Nat.zero_le _) (by intro r hr;simp only [rowsIn,List.nil_append,List.cons_append,List.mem_cons,List.not_mem_nil,or_false] at hr;rcases hr with rfl|rfl|rfl|rfl|rfl|rfl|rfl|rfl <;> decide) _⟩
    | skip
theorem any144:∃ g:List SV→ByteArray × Int × Int,FOk Tryz.prog T 144 { pre:=fun a=>∃ rows i h0,CurOk rows i∧a=[curA 5 rows i h0],res:=fun a=>(fun (x:ByteArray × Int × Int)=>.val false [.s x.1]) (g a),bx:=true,upd:=fun a=>curU 5 a (g a).2.1 (g a).2.2 } ∧
    ∀ cs args,(fun a=>∃ rows i h0,CurOk rows i∧a=[curA 5 rows i h0]) (.tup [(true,cs)] :: args)→(∀ a ∈ args,WfSV T a)→(fun (a:List SV) (x:ByteArray × Int × Int)=>CurOk (rowsOf a) x.2.1∧(fun x:ByteArray=>x.size≤20) x.1) (.tup [(true,cs)] :: args) (g (.tup [(true,cs)] :: args)):=by
  obtain ⟨g218,k218,p218⟩:=any218
  have q218:∀ (rows:List (List D)) (i h0:Int),CurOk rows i→CurOk rows (g218 [curA 5 rows i h0]).2.1∧(fun (a:List SV) (x:ByteArray)=>x.size≤20) [curA 5 rows i h0] (g218 [curA 5 rows i h0]).1:=fun rows i h0 ok=>p218 _ _ ⟨rows,i,h0,ok,rfl⟩ (by intro a ha;cases ha)
  clear p218
  refine fokBA (α:=ByteArray × Int × Int) (fun _ x=>.val false [.s x.1]) (fun a x=>curU 5 a x.2.1 x.2.2) (post:=fun a x=>CurOk (rowsOf a) x.2.1∧(fun x:ByteArray=>x.size≤20) x.1) (env:=envL [(128,(spOnce 5)),(218, { pre:=fun a=>∃ rows i h0,CurOk rows i∧a=[curA 5 rows i h0],res:=fun a=>(fun (x:ByteArray × Int × Int)=>.val false [.s x.1]) (g218 a),bx:=true,upd:=fun a=>curU 5 a (g218 a).2.1 (g218 a).2.2 }),(167,(spPick 5 9))]) (N:=10) tabT (envL_cons ok128 (envL_cons k218 (envL_cons ok167 envL_nil))) mixed Tryz.func144 rfl Tryz.call144 Tryz.ntmps144 ?_
  rintro cs args ⟨rows,i,h0,ok,he⟩ hwf
  obtain ⟨rfl,rfl⟩:cs=curC 5 rows i h0∧args=[]:=by simpa only [List.cons.injEq,SV.tup.injEq,Prod.mk.injEq,true_and,and_true] using he
  refine ⟨by simp,?_⟩
  clear he
  rw [Tryz.results144]
  repeat' first
    | (refine And.intro ?_ ?_)
    | (intro h;simp only [reduceCtorEq] at h;done)
    | (intro h;rw [h])
    | (intro h)
  all_goals first
    | (show lowEdges _=true;kernel_rfl)|(show logOk _ _=true;kernel_rfl)|exact True.intro|exact Or.inr rfl|exact Or.inl rfl
    | (show Alive _ _;rfl)
    | (show List.length _=_;rfl)
    | exact ⟨_,_,_,_,(by repeat (first|exact ok|exact ok1|exact ok2|refine byteI_ok ?_|refine (q212 _ _ _ ?_).1|refine (q213 _ _ _ ?_).1|refine (q218 _ _ _ ?_).1)),hl,rfl⟩
    | exact ⟨_,_,_,_,(by repeat (first|exact ok|exact ok1|exact ok2|refine byteI_ok ?_|refine (q212 _ _ _ ?_).1|refine (q213 _ _ _ ?_).1|refine (q218 _ _ _ ?_).1)),⟨by decide,by decide⟩,rfl⟩
    | exact ⟨_,_,_,(by repeat (first|exact ok|exact ok1|exact ok2|refine byteI_ok ?_|refine (q212 _ _ _ ?_).1|refine (q213 _ _ _ ?_).1|refine (q218 _ _ _ ?_).1)),rfl⟩
    | exact ⟨_,_,_,_,(by repeat (first|exact ok|exact ok1|exact ok2|refine byteI_ok ?_|refine (q212 _ _ _ ?_).1|refine (q213 _ _ _ ?_).1|refine (q218 _ _ _ ?_).1)),rfl⟩
    | refine ⟨(_,_,_),?_,rfl,rfl,True.intro⟩
    | skip
  all_goals first
    | exact ⟨(by repeat (first|exact ok|exact ok1|exact ok2|refine byteI_ok ?_|refine (q212 _ _ _ ?_).1|refine (q213 _ _ _ ?_).1|refine (q218 _ _ _ ?_).1)),pick_size (P:=fun t=>t.size≤20) (Nat.zero_le _) (by intro r hr;simp only [rowsIn,List.nil_append,List.cons_append,List.mem_cons,List.not_mem_nil,or_false] at hr;rcases hr with rfl|rfl|rfl|rfl|rfl|rfl|rfl|rfl|rfl|rfl|rfl|rfl <;> decide) _⟩
    | exact ⟨(by repeat (first|exact ok|exact ok1|exact ok2|refine byteI_ok ?_|refine (q212 _ _ _ ?_).1|refine (q213 _ _ _ ?_).1|refine (q218 _ _ _ ?_).1)),(q218 _ _ _ (by repeat (first|exact ok|exact ok1|exact ok2|refine byteI_ok ?_|refine (q212 _ _ _ ?_).1|refine (q213 _ _ _ ?_).1|refine (q218 _ _ _ ?_).1))).2⟩
    | skip
theorem any259:∃ g:List SV→List (List D) × Int × Int,FOk Tryz.prog T 259 { pre:=fun a=>∃ rows i h0,CurOk rows i∧a=[curA 5 rows i h0],res:=fun a=>(fun (x:List (List D) × Int × Int)=>.val false [.sl true 153 x.1]) (g a),bx:=true,upd:=fun a=>curU 5 a (g a).2.1 (g a).2.2 } ∧
    ∀ cs args,(fun a=>∃ rows i h0,CurOk rows i∧a=[curA 5 rows i h0]) (.tup [(true,cs)] :: args)→(∀ a ∈ args,WfSV T a)→(fun (a:List SV) (x:List (List D) × Int × Int)=>CurOk (rowsOf a) x.2.1∧(fun x:List (List D)=>LS T 153 2 x) x.1) (.tup [(true,cs)] :: args) (g (.tup [(true,cs)] :: args)):=by
  refine fokBA (α:=List (List D) × Int × Int) (fun _ x=>.val false [.sl true 153 x.1]) (fun a x=>curU 5 a x.2.1 x.2.2) (post:=fun a x=>CurOk (rowsOf a) x.2.1∧(fun x:List (List D)=>LS T 153 2 x) x.1) (env:=envL [(126,(spBelow 5))]) (N:=31) tabT (envL_cons ok126 envL_nil) mixed Tryz.func259 rfl Tryz.call259 Tryz.ntmps259 ?_
  rintro cs args ⟨rows,i,h0,ok,he⟩ hwf
  obtain ⟨rfl,rfl⟩:cs=curC 5 rows i h0∧args=[]:=by simpa only [List.cons.injEq,SV.tup.injEq,Prod.mk.injEq,true_and,and_true] using he
  refine ⟨by simp,?_⟩
  clear he
  rw [Tryz.results259]
  have hb:=belowR_in (rows:=rows) (i:=i) (h:=h0) (n:=3) ⟨by decide,by decide⟩
  repeat' first
    | (refine And.intro ?_ ?_)
    | (intro h;simp only [reduceCtorEq] at h;done)
    | (intro h;rw [h])
    | (intro h)
  all_goals first
    | (show lowEdges _=true;kernel_rfl)|(show logOk _ _=true;kernel_rfl)|exact True.intro|exact Or.inr rfl|exact Or.inl rfl
    | (show Alive _ _;rfl)
    | (show List.length _=_;rfl)
    | exact ⟨_,_,_,_,(by repeat (first|exact ok|exact ok1|exact ok2|refine byteI_ok ?_|refine (q212 _ _ _ ?_).1|refine (q213 _ _ _ ?_).1|refine (q218 _ _ _ ?_).1|refine (q144 _ _ _ ?_).1)),hl,rfl⟩
    | exact ⟨_,_,_,_,(by repeat (first|exact ok|exact ok1|exact ok2|refine byteI_ok ?_|refine (q212 _ _ _ ?_).1|refine (q213 _ _ _ ?_).1|refine (q218 _ _ _ ?_).1|refine (q144 _ _ _ ?_).1)),⟨by decide,by decide⟩,rfl⟩
    | exact ⟨_,_,_,(by repeat (first|exact ok|exact ok1|exact ok2|refine byteI_ok ?_|refine (q212 _ _ _ ?_).1|refine (q213 _ _ _ ?_).1|refine (q218 _ _ _ ?_).1|refine (q144 _ _ _ ?_).1)),rfl⟩
    | exact ⟨_,_,_,_,(by repeat (first|exact ok|exact ok1|exact ok2|refine byteI_ok ?_|refine (q212 _ _ _ ?_).1|refine (q213 _ _ _ ?_).1|refine (q218 _ _ _ ?_).1|refine (q144 _ _ _ ?_).1)),rfl⟩
    | refine ⟨(_,_,_),?_,rfl,rfl,True.intro⟩
    | skip
  refine awp_loop (Q:=_) [0,3,4,5,6] [31] (fun n s=>∃ (z c:Int) (o:List (List D)) (I H:Int),s=([.ptr 31 0 0,.val false [.sl true 153 o],.val false [.i .i64 c],.val false [.i .i64 (belowR rows i h0 3)],.val false [.i .i64 z]],[(0,[.val false [.sl false 5 rows],.val false [.i .i64 I],.val false [.i .i64 H]])])∧inK .i64 c∧CurOk rows I∧LS T 153 z.toNat o∧0≤z∧z≤belowR rows i h0 3∧n=(belowR rows i h0 3).toNat - z.toNat) ?_ ?_
  · exact ⟨rfl,_,0,_,_,_,_,rfl,⟨by decide,by decide⟩,byteI_ok ok,LS.nil,by decide,hb.1,rfl⟩
  rintro n s ⟨z,c,o,I,H,rfl,hc,ok1,hL,h1,h2,h3⟩
  have hlen:=hL.len
  repeat' first
    | (refine And.intro ?_ ?_)
    | (intro h;simp only [reduceCtorEq] at h;done)
    | (intro h;rw [h])
    | (intro h)
  all_goals first
    | (show lowEdges _=true;kernel_rfl)|(show logOk _ _=true;kernel_rfl)|exact True.intro|exact Or.inr rfl|exact Or.inl rfl
    | (show Alive _ _;rfl)
    | (show List.length _=_;rfl)
    | exact ⟨_,_,_,_,(by repeat (first|exact ok|exact ok1|exact ok2|refine byteI_ok ?_|refine (q212 _ _ _ ?_).1|refine (q213 _ _ _ ?_).1|refine (q218 _ _ _ ?_).1|refine (q144 _ _ _ ?_).1)),hl,rfl⟩
    | exact ⟨_,_,_,_,(by repeat (first|exact ok|exact ok1|exact ok2|refine byteI_ok ?_|refine (q212 _ _ _ ?_).1|refine (q213 _ _ _ ?_).1|refine (q218 _ _ _ ?_).1|refine (q144 _ _ _ ?_).1)),⟨by decide,by decide⟩,rfl⟩
    | exact ⟨_,_,_,(by repeat (first|exact ok|exact ok1|exact ok2|refine byteI_ok ?_|refine (q212 _ _ _ ?_).1|refine (q213 _ _ _ ?_).1|refine (q218 _ _ _ ?_).1|refine (q144 _ _ _ ?_).1)),rfl⟩
    | exact ⟨_,_,_,_,(by repeat (first|exact ok|exact ok1|exact ok2|refine byteI_ok ?_|refine (q212 _ _ _ ?_).1|refine (q213 _ _ _ ?_).1|refine (q218 _ _ _ ?_).1|refine (q144 _ _ _ ?_).1)),rfl⟩
    | (show o.length+1≤maxLen;simp only [maxLen];omega)
    | (show (o.length+1) * 16≤140737488355328;omega)
    | (have hz:z < belowR rows i h0 3:=of_decide_eq_true ‹decide (z < belowR rows i h0 3)=true›
       have hr:WfRow T [.i .i64,.i .i64] [.i c,.i (IntKind.i64.wrap (z+IntKind.i64.wrap (belowR rows I H 2 * 2)))]:=wfPair hc (wrap_inK _ _)
       have e:(z+1).toNat=z.toNat+1+0:=by omega
       refine ⟨(belowR rows i h0 3).toNat - (z+1).toNat,by omega,z+1,_,_,_,_,congrArg (fun q=>(([.ptr 31 0 0,.val false [.sl true 153 _],.val false [.i .i64 _],.val false [.i .i64 (belowR rows i h0 3)],.val false [.i .i64 q]],[(0,[.val false [.sl false 5 rows],.val false [.i .i64 _],.val false [.i .i64 _]])]):Snap)) (wrap_i64_in (by omega) (by omega)),wrap_inK _ _,byteI_ok (byteI_ok ok1),?_,by omega,by omega,rfl⟩
       rw [e]
       exact hL.add rfl (by omega) hr (Nat.le_refl _))
    | refine ⟨(_,_,_),?_,rfl,rfl,True.intro⟩
    | skip
  all_goals first
    | exact ⟨ok1,hL.mono (by omega)⟩
    | skip
def spv177:FSpec where
  pre args:=∃ n:Int,args=[.val false [.i .i64 n]]
  res args:=match args with
    | [.val _ [.i _ n]]=>.val true [.i .i64 1,.i .i64 n,.i .i64 0,.s ⟨#[]⟩,.sl true 33 [],.sl true 9 [],.sl true 91 []]
    | _=>.none
theorem okv177:FOk Tryz.prog T 177 spv177:=by
  refine fok (env:=envL []) (N:=5) tabT envL_nil mixed Tryz.func177 rfl Tryz.call177 Tryz.ntmps177 ?_
  rintro args ⟨n,rfl⟩ hwf
  refine ⟨by simp,?_⟩
  clear hwf
  rw [Tryz.results177]
  repeat' first
    | (refine And.intro ?_ ?_)
    | (intro h;simp only [reduceCtorEq] at h;done)
    | (intro h;rw [h])
    | (intro h)
  all_goals first
    | (show lowEdges _=true;kernel_rfl)|(show logOk _ _=true;kernel_rfl)|exact True.intro|exact Or.inr rfl|exact Or.inl rfl
    | exact rfl
    | skip
def spv174:FSpec where
  pre args:=∃ n:Int,args=[.val false [.i .i64 n]]
  res args:=match args with
    | [.val _ [.i _ n]]=>.val true [.i .i64 6,.i .i64 n,.i .i64 0,.s ⟨#[]⟩,.sl true 33 [],.sl true 9 [],.sl true 91 []]
    | _=>.none
theorem okv174:FOk Tryz.prog T 174 spv174:=by
  refine fok (env:=envL []) (N:=5) tabT envL_nil mixed Tryz.func174 rfl Tryz.call174 Tryz.ntmps174 ?_
  rintro args ⟨n,rfl⟩ hwf
  refine ⟨by simp,?_⟩
  clear hwf
  rw [Tryz.results174]
  repeat' first
    | (refine And.intro ?_ ?_)
    | (intro h;simp only [reduceCtorEq] at h;done)
    | (intro h;rw [h])
    | (intro h)
  all_goals first
    | (show lowEdges _=true;kernel_rfl)|(show logOk _ _=true;kernel_rfl)|exact True.intro|exact Or.inr rfl|exact Or.inl rfl
    | exact rfl
    | skip
def spv216:FSpec where
  pre args:=∃ n m:Int,args=[.val false [.i .i64 n],.val false [.i .i64 m]]
  res args:=match args with
    | [.val _ [.i _ n],.val _ [.i _ m]]=>.val true [.i .i64 4,.i .i64 n,.i .i64 m,.s ⟨#[]⟩,.sl true 33 [],.sl true 9 [],.sl true 91 []]
    | _=>.none
theorem okv216:FOk Tryz.prog T 216 spv216:=by
  refine fok (env:=envL []) (N:=8) tabT envL_nil mixed Tryz.func216 rfl Tryz.call216 Tryz.ntmps216 ?_
  rintro args ⟨n,m,rfl⟩ hwf
  refine ⟨by simp,?_⟩
  clear hwf
  rw [Tryz.results216]
  repeat' first
    | (refine And.intro ?_ ?_)
    | (intro h;simp only [reduceCtorEq] at h;done)
    | (intro h;rw [h])
    | (intro h)
  all_goals first
    | (show lowEdges _=true;kernel_rfl)|(show logOk _ _=true;kernel_rfl)|exact True.intro|exact Or.inr rfl|exact Or.inl rfl
    | exact rfl
    | skip
def spv170:FSpec where
  pre args:=∃ n:ByteArray,args=[.val false [.s n]]
  res args:=match args with
    | [.val _ [.s n]]=>.val true [.i .i64 2,.i .i64 0,.i .i64 0,.s n,.sl true 33 [],.sl true 9 [],.sl true 91 []]
    | _=>.none
theorem okv170:FOk Tryz.prog T 170 spv170:=by
  refine fok (env:=envL []) (N:=5) tabT envL_nil mixed Tryz.func170 rfl Tryz.call170 Tryz.ntmps170 ?_
  rintro args ⟨n,rfl⟩ hwf
  refine ⟨by simp,?_⟩
  clear hwf
  rw [Tryz.results170]
  repeat' first
    | (refine And.intro ?_ ?_)
    | (intro h;simp only [reduceCtorEq] at h;done)
    | (intro h;rw [h])
    | (intro h)
  all_goals first
    | (show lowEdges _=true;kernel_rfl)|(show logOk _ _=true;kernel_rfl)|exact True.intro|exact Or.inr rfl|exact Or.inl rfl
    | exact rfl
    | skip
theorem any258d1:∃ g:List SV→VL × Int × Int,FOk Tryz.prog T 258 { pre:=fun a=>∃ rows i h0,CurOk rows i∧a=[curA 5 rows i h0,.val false [.i .i64 1]],res:=fun a=>(fun (x:VL × Int × Int)=>x.1.own 33 9 91) (g a),bx:=true,upd:=fun a=>curU 5 a (g a).2.1 (g a).2.2 } ∧
    ∀ cs args,(fun a=>∃ rows i h0,CurOk rows i∧a=[curA 5 rows i h0,.val false [.i .i64 1]]) (.tup [(true,cs)] :: args)→(∀ a ∈ args,WfSV T a)→(fun (a:List SV) (x:VL × Int × Int)=>CurOk (rowsOf a) x.2.1∧(fun x:VL=>VL.ok T 33 9 91 20 x) x.1) (.tup [(true,cs)] :: args) (g (.tup [(true,cs)] :: args)):=by
  obtain ⟨g213,k213,p213⟩:=any213
  have q213:∀ (rows:List (List D)) (i h0:Int),CurOk rows i→CurOk rows (g213 [curA 5 rows i h0]).2.1∧(fun (a:List SV) (x:ByteArray)=>x.size≤20) [curA 5 rows i h0] (g213 [curA 5 rows i h0]).1:=fun rows i h0 ok=>p213 _ _ ⟨rows,i,h0,ok,rfl⟩ (by intro a ha;cases ha)
  clear p213
  obtain ⟨g212,k212,p212⟩:=any212
  have q212:∀ (rows:List (List D)) (i h0:Int),CurOk rows i→CurOk rows (g212 [curA 5 rows i h0]).2.1∧(fun (a:List SV) (x:Int)=>inK .i64 x) [curA 5 rows i h0] (g212 [curA 5 rows i h0]).1:=fun rows i h0 ok=>p212 _ _ ⟨rows,i,h0,ok,rfl⟩ (by intro a ha;cases ha)
  clear p212
  refine fokBA (α:=VL × Int × Int) (fun _ x=>x.1.own 33 9 91) (fun a x=>curU 5 a x.2.1 x.2.2) (post:=fun a x=>CurOk (rowsOf a) x.2.1∧(fun x:VL=>VL.ok T 33 9 91 20 x) x.1) (env:=envL [(128,(spOnce 5)),(213, { pre:=fun a=>∃ rows i h0,CurOk rows i∧a=[curA 5 rows i h0],res:=fun a=>(fun (x:ByteArray × Int × Int)=>.val false [.s x.1]) (g213 a),bx:=true,upd:=fun a=>curU 5 a (g213 a).2.1 (g213 a).2.2 }),(170,spv170),(212, { pre:=fun a=>∃ rows i h0,CurOk rows i∧a=[curA 5 rows i h0],res:=fun a=>(fun (x:Int × Int × Int)=>.val false [.i .i64 x.1]) (g212 a),bx:=true,upd:=fun a=>curU 5 a (g212 a).2.1 (g212 a).2.2 }),(177,spv177)]) (N:=23) tabT (envL_cons ok128 (envL_cons k213 (envL_cons okv170 (envL_cons k212 (envL_cons okv177 envL_nil))))) mixed Tryz.func258 rfl Tryz.call258 Tryz.ntmps258 ?_
  rintro cs args ⟨rows,i,h0,ok,he⟩ hwf
  obtain ⟨rfl,rfl⟩:cs=curC 5 rows i h0∧args=[.val false [.i .i64 1]]:=by simpa only [List.cons.injEq,SV.tup.injEq,Prod.mk.injEq,true_and,and_true] using he
  refine ⟨by simp,?_⟩
  clear he
  rw [Tryz.results258]
  repeat' first
    | (refine And.intro ?_ ?_)
    | (intro h;simp only [reduceCtorEq] at h;done)
    | (intro h;rw [h])
    | (intro h)
  all_goals first
    | (show lowEdges _=true;kernel_rfl)|(show logOk _ _=true;kernel_rfl)|exact True.intro|exact Or.inr rfl|exact Or.inl rfl
    | (show Alive _ _;rfl)
    | (show List.length _=_;rfl)
    | exact ⟨_,_,_,_,(by repeat (first|exact ok|exact ok1|exact ok2|refine byteI_ok ?_|refine (q212 _ _ _ ?_).1|refine (q213 _ _ _ ?_).1|refine (q218 _ _ _ ?_).1|refine (q144 _ _ _ ?_).1|refine (q259 _ _ _ ?_).1)),hl,rfl⟩
    | exact ⟨_,_,_,_,(by repeat (first|exact ok|exact ok1|exact ok2|refine byteI_ok ?_|refine (q212 _ _ _ ?_).1|refine (q213 _ _ _ ?_).1|refine (q218 _ _ _ ?_).1|refine (q144 _ _ _ ?_).1|refine (q259 _ _ _ ?_).1)),⟨by decide,by decide⟩,rfl⟩
    | exact ⟨_,_,_,(by repeat (first|exact ok|exact ok1|exact ok2|refine byteI_ok ?_|refine (q212 _ _ _ ?_).1|refine (q213 _ _ _ ?_).1|refine (q218 _ _ _ ?_).1|refine (q144 _ _ _ ?_).1|refine (q259 _ _ _ ?_).1)),rfl⟩
    | exact ⟨_,_,_,_,(by repeat (first|exact ok|exact ok1|exact ok2|refine byteI_ok ?_|refine (q212 _ _ _ ?_).1|refine (q213 _ _ _ ?_).1|refine (q218 _ _ _ ?_).1|refine (q144 _ _ _ ?_).1|refine (q259 _ _ _ ?_).1)),rfl⟩
    | exact ⟨_,rfl⟩
    | exact ⟨_,_,rfl⟩
    | exact absurd (of_decide_eq_true (by assumption:decide ((1:Int) > 1)=true)) (by decide)
    | exact ⟨_,_,_,(by repeat (first|exact ok|exact ok1|exact ok2|refine byteI_ok ?_|refine (q212 _ _ _ ?_).1|refine (q213 _ _ _ ?_).1|refine (q218 _ _ _ ?_).1|refine (q144 _ _ _ ?_).1|refine (q259 _ _ _ ?_).1)),by with_reducible rfl⟩
    | refine ⟨(⟨_,_,_,_,_,_,_⟩,_,_),?_,rfl,rfl,True.intro⟩
    | skip
  all_goals first
    | exact ⟨(by repeat (first|exact ok|exact ok1|exact ok2|refine byteI_ok ?_|refine (q212 _ _ _ ?_).1|refine (q213 _ _ _ ?_).1|refine (q218 _ _ _ ?_).1|refine (q144 _ _ _ ?_).1|refine (q259 _ _ _ ?_).1)),VL.num_ok (q212 _ _ _ (by repeat (first|exact ok|exact ok1|exact ok2|refine byteI_ok ?_|refine (q212 _ _ _ ?_).1|refine (q213 _ _ _ ?_).1|refine (q218 _ _ _ ?_).1|refine (q144 _ _ _ ?_).1|refine (q259 _ _ _ ?_).1))).2⟩
    | exact ⟨(by repeat (first|exact ok|exact ok1|exact ok2|refine byteI_ok ?_|refine (q212 _ _ _ ?_).1|refine (q213 _ _ _ ?_).1|refine (q218 _ _ _ ?_).1|refine (q144 _ _ _ ?_).1|refine (q259 _ _ _ ?_).1)),VL.txt_ok (q213 _ _ _ (by repeat (first|exact ok|exact ok1|exact ok2|refine byteI_ok ?_|refine (q212 _ _ _ ?_).1|refine (q213 _ _ _ ?_).1|refine (q218 _ _ _ ?_).1|refine (q144 _ _ _ ?_).1|refine (q259 _ _ _ ?_).1))).2⟩
    | skip
theorem any214d1:∃ g:List SV→VL × Int × Int,FOk Tryz.prog T 214 { pre:=fun a=>∃ rows i h0,CurOk rows i∧a=[curA 5 rows i h0,.val false [.i .i64 1]],res:=fun a=>(fun (x:VL × Int × Int)=>x.1.own 33 9 91) (g a),bx:=true,upd:=fun a=>curU 5 a (g a).2.1 (g a).2.2 } ∧
    ∀ cs args,(fun a=>∃ rows i h0,CurOk rows i∧a=[curA 5 rows i h0,.val false [.i .i64 1]]) (.tup [(true,cs)] :: args)→(∀ a ∈ args,WfSV T a)→(fun (a:List SV) (x:VL × Int × Int)=>CurOk (rowsOf a) x.2.1∧(fun x:VL=>VL.ok T 33 9 91 189 x) x.1) (.tup [(true,cs)] :: args) (g (.tup [(true,cs)] :: args)):=by
  obtain ⟨g193,k193,p193⟩:=any193
  have q193:∀ (rows:List (List D)) (i h0:Int) (l:List (List D)),CurOk rows i→smallN (l.length:Int)→(∀ a ∈ ([argS 3 l]:List SV),WfSV T a)→CurOk rows (g193 [curA 5 rows i h0,argS 3 l]).2.1∧(fun (a:List SV) (x:Int)=>∀ P:Int→Prop,P 0→(∀ r ∈ rowsIn a,P (r.getD 0 default).int)→P x) [curA 5 rows i h0,argS 3 l] (g193 [curA 5 rows i h0,argS 3 l]).1:=fun rows i h0 l ok hp hw=>p193 _ _ ⟨rows,i,h0,l,ok,hp,rfl⟩ (hw)
  clear p193
  obtain ⟨g258d1,k258d1,p258d1⟩:=any258d1
  have q258d1:∀ (rows:List (List D)) (i h0:Int),CurOk rows i→(∀ a ∈ ([.val false [.i .i64 1]]:List SV),WfSV T a)→CurOk rows (g258d1 [curA 5 rows i h0,.val false [.i .i64 1]]).2.1∧(fun (a:List SV) (x:VL)=>VL.ok T 33 9 91 20 x) [curA 5 rows i h0,.val false [.i .i64 1]] (g258d1 [curA 5 rows i h0,.val false [.i .i64 1]]).1:=fun rows i h0 ok hw=>p258d1 _ _ ⟨rows,i,h0,ok,rfl⟩ (hw)
  clear p258d1
  refine fokBA (α:=VL × Int × Int) (fun _ x=>x.1.own 33 9 91) (fun a x=>curU 5 a x.2.1 x.2.2) (post:=fun a x=>CurOk (rowsOf a) x.2.1∧(fun x:VL=>VL.ok T 33 9 91 189 x) x.1) (env:=envL [(193, { pre:=fun a=>∃ rows i h0 l,CurOk rows i∧smallN (l.length:Int)∧a=[curA 5 rows i h0,argS 3 l],res:=fun a=>(fun (x:Int × Int × Int)=>.val false [.i .i64 x.1]) (g193 a),bx:=true,upd:=fun a=>curU 5 a (g193 a).2.1 (g193 a).2.2 }),(258, { pre:=fun a=>∃ rows i h0,CurOk rows i∧a=[curA 5 rows i h0,.val false [.i .i64 1]],res:=fun a=>(fun (x:VL × Int × Int)=>x.1.own 33 9 91) (g258d1 a),bx:=true,upd:=fun a=>curU 5 a (g258d1 a).2.1 (g258d1 a).2.2 })]) (N:=26) tabT (envL_cons k193 (envL_cons k258d1 envL_nil)) mixed Tryz.func214 rfl Tryz.call214 Tryz.ntmps214 ?_
  rintro cs args ⟨rows,i,h0,ok,he⟩ hwf
  obtain ⟨rfl,rfl⟩:cs=curC 5 rows i h0∧args=[.val false [.i .i64 1]]:=by simpa only [List.cons.injEq,SV.tup.injEq,Prod.mk.injEq,true_and,and_true] using he
  refine ⟨by simp,?_⟩
  clear he
  rw [Tryz.results214]
  repeat' first
    | (refine And.intro ?_ ?_)
    | (intro h;simp only [reduceCtorEq] at h;done)
    | (intro h;rw [h])
    | (intro h)
  all_goals first
    | (show lowEdges _=true;kernel_rfl)|(show logOk _ _=true;kernel_rfl)|exact True.intro|exact Or.inr rfl|exact Or.inl rfl
    | (show Alive _ _;rfl)
    | (show List.length _=_;rfl)
    | exact ⟨_,_,_,_,(by repeat (first|exact ok|exact ok1|exact ok2|refine byteI_ok ?_|refine (q212 _ _ _ ?_).1|refine (q213 _ _ _ ?_).1|refine (q218 _ _ _ ?_).1|refine (q144 _ _ _ ?_).1|refine (q259 _ _ _ ?_).1|refine (q193 _ _ _ _ ?_ ⟨by decide,by decide⟩ (wfPick (wfInts rfl rfl (by decide) (by intro r hr;simp only [rowsIn,List.nil_append,List.cons_append,List.mem_cons,List.not_mem_nil,or_false] at hr;rcases hr with rfl|rfl|rfl|rfl|rfl|rfl|rfl|rfl <;> exact ⟨_,rfl,by decide,by decide⟩)))).1)),hl,rfl⟩
    | exact ⟨_,_,_,_,(by repeat (first|exact ok|exact ok1|exact ok2|refine byteI_ok ?_|refine (q212 _ _ _ ?_).1|refine (q213 _ _ _ ?_).1|refine (q218 _ _ _ ?_).1|refine (q144 _ _ _ ?_).1|refine (q259 _ _ _ ?_).1|refine (q193 _ _ _ _ ?_ ⟨by decide,by decide⟩ (wfPick (wfInts rfl rfl (by decide) (by intro r hr;simp only [rowsIn,List.nil_append,List.cons_append,List.mem_cons,List.not_mem_nil,or_false] at hr;rcases hr with rfl|rfl|rfl|rfl|rfl|rfl|rfl|rfl <;> exact ⟨_,rfl,by decide,by decide⟩)))).1)),⟨by decide,by decide⟩,rfl⟩
    | exact ⟨_,_,_,(by repeat (first|exact ok|exact ok1|exact ok2|refine byteI_ok ?_|refine (q212 _ _ _ ?_).1|refine (q213 _ _ _ ?_).1|refine (q218 _ _ _ ?_).1|refine (q144 _ _ _ ?_).1|refine (q259 _ _ _ ?_).1|refine (q193 _ _ _ _ ?_ ⟨by decide,by decide⟩ (wfPick (wfInts rfl rfl (by decide) (by intro r hr;simp only [rowsIn,List.nil_append,List.cons_append,List.mem_cons,List.not_mem_nil,or_false] at hr;rcases hr with rfl|rfl|rfl|rfl|rfl|rfl|rfl|rfl <;> exact ⟨_,rfl,by decide,by decide⟩)))).1)),rfl⟩
    | exact ⟨_,_,_,_,(by repeat (first|exact ok|exact ok1|exact ok2|refine byteI_ok ?_|refine (q212 _ _ _ ?_).1|refine (q213 _ _ _ ?_).1|refine (q218 _ _ _ ?_).1|refine (q144 _ _ _ ?_).1|refine (q259 _ _ _ ?_).1|refine (q193 _ _ _ _ ?_ ⟨by decide,by decide⟩ (wfPick (wfInts rfl rfl (by decide) (by intro r hr;simp only [rowsIn,List.nil_append,List.cons_append,List.mem_cons,List.not_mem_nil,or_false] at hr;rcases hr with rfl|rfl|rfl|rfl|rfl|rfl|rfl|rfl <;> exact ⟨_,rfl,by decide,by decide⟩)))).1)),rfl⟩
    | refine ⟨(⟨_,_,_,_,_,_,_⟩,_,_),?_,rfl,rfl,True.intro⟩
    | skip
  refine awp_loop (Q:=_) [0,1,4,5,6,7] [26,4,5] (fun n s=>∃ (z m:Int) (o:List (List D)) (I H:Int),s=([.ptr 26 0 0,.val false [.i .i64 1],.ptr 4 1 0,.ptr 5 1 0,.val false [.i .i64 m],.val false [.i .i64 z]],[(0,[.val false [.sl false 5 rows],.val false [.i .i64 I],.val false [.i .i64 H]]),(1,[.val false [.i .i64 0],.val false [.i .i64 0],.val false [.i .i64 0],.val false [.s ByteArray.empty],.val false [.sl true 33 []],.val false [.sl true 9 []],.val false [.sl true 91 []]]),(1,[.val false [.i .i64 3],.val false [.i .i64 0],.val false [.i .i64 0],.val false [.s ByteArray.empty],.val false [.sl true 33 (o)],.val false [.sl true 9 ([])],.val false [.sl true 91 ([])]])])∧0≤m∧m≤8∧CurOk rows I∧LS T 33 (z.toNat * 21) o∧0≤z∧z≤m∧n=m.toNat - z.toNat) ?_ ?_
  · exact ⟨rfl,_,0,_,_,_,_,rfl,((q193 _ _ _ _ (by repeat (first|exact ok|exact ok1|exact ok2|refine byteI_ok ?_|refine (q212 _ _ _ ?_).1|refine (q213 _ _ _ ?_).1|refine (q218 _ _ _ ?_).1|refine (q144 _ _ _ ?_).1|refine (q259 _ _ _ ?_).1|refine (q193 _ _ _ _ ?_ ⟨by decide,by decide⟩ (wfPick (wfInts rfl rfl (by decide) (by intro r hr;simp only [rowsIn,List.nil_append,List.cons_append,List.mem_cons,List.not_mem_nil,or_false] at hr;rcases hr with rfl|rfl|rfl|rfl|rfl|rfl|rfl|rfl <;> exact ⟨_,rfl,by decide,by decide⟩)))).1)) ⟨by decide,by decide⟩ (wfPick (wfInts rfl rfl (by decide) (by intro r hr;simp only [rowsIn,List.nil_append,List.cons_append,List.mem_cons,List.not_mem_nil,or_false] at hr;rcases hr with rfl|rfl|rfl|rfl|rfl|rfl|rfl|rfl <;> exact ⟨_,rfl,by decide,by decide⟩)))).2 (fun x=>0≤x∧x≤8) ⟨by decide,by decide⟩ (by intro r hr;simp only [rowsIn,List.nil_append,List.cons_append,List.mem_cons,List.not_mem_nil,or_false] at hr;rcases hr with rfl|rfl|rfl|rfl|rfl|rfl|rfl|rfl <;> exact ⟨by decide,by decide⟩)).1,((q193 _ _ _ _ (by repeat (first|exact ok|exact ok1|exact ok2|refine byteI_ok ?_|refine (q212 _ _ _ ?_).1|refine (q213 _ _ _ ?_).1|refine (q218 _ _ _ ?_).1|refine (q144 _ _ _ ?_).1|refine (q259 _ _ _ ?_).1|refine (q193 _ _ _ _ ?_ ⟨by decide,by decide⟩ (wfPick (wfInts rfl rfl (by decide) (by intro r hr;simp only [rowsIn,List.nil_append,List.cons_append,List.mem_cons,List.not_mem_nil,or_false] at hr;rcases hr with rfl|rfl|rfl|rfl|rfl|rfl|rfl|rfl <;> exact ⟨_,rfl,by decide,by decide⟩)))).1)) ⟨by decide,by decide⟩ (wfPick (wfInts rfl rfl (by decide) (by intro r hr;simp only [rowsIn,List.nil_append,List.cons_append,List.mem_cons,List.not_mem_nil,or_false] at hr;rcases hr with rfl|rfl|rfl|rfl|rfl|rfl|rfl|rfl <;> exact ⟨_,rfl,by decide,by decide⟩)))).2 (fun x=>0≤x∧x≤8) ⟨by decide,by decide⟩ (by intro r hr;simp only [rowsIn,List.nil_append,List.cons_append,List.mem_cons,List.not_mem_nil,or_false] at hr;rcases hr with rfl|rfl|rfl|rfl|rfl|rfl|rfl|rfl <;> exact ⟨by decide,by decide⟩)).2,(by repeat (first|exact ok|exact ok1|exact ok2|refine byteI_ok ?_|refine (q212 _ _ _ ?_).1|refine (q213 _ _ _ ?_).1|refine (q218 _ _ _ ?_).1|refine (q144 _ _ _ ?_).1|refine (q259 _ _ _ ?_).1|refine (q193 _ _ _ _ ?_ ⟨by decide,by decide⟩ (wfPick (wfInts rfl rfl (by decide) (by intro r hr;simp only [rowsIn,List.nil_append,List.cons_append,List.mem_cons,List.not_mem_nil,or_false] at hr;rcases hr with rfl|rfl|rfl|rfl|rfl|rfl|rfl|rfl <;> exact ⟨_,rfl,by decide,by decide⟩)))).1)),LS.nil,by decide,((q193 _ _ _ _ (by repeat (first|exact ok|exact ok1|exact ok2|refine byteI_ok ?_|refine (q212 _ _ _ ?_).1|refine (q213 _ _ _ ?_).1|refine (q218 _ _ _ ?_).1|refine (q144 _ _ _ ?_).1|refine (q259 _ _ _ ?_).1|refine (q193 _ _ _ _ ?_ ⟨by decide,by decide⟩ (wfPick (wfInts rfl rfl (by decide) (by intro r hr;simp only [rowsIn,List.nil_append,List.cons_append,List.mem_cons,List.not_mem_nil,or_false] at hr;rcases hr with rfl|rfl|rfl|rfl|rfl|rfl|rfl|rfl <;> exact ⟨_,rfl,by decide,by decide⟩)))).1)) ⟨by decide,by decide⟩ (wfPick (wfInts rfl rfl (by decide) (by intro r hr;simp only [rowsIn,List.nil_append,List.cons_append,List.mem_cons,List.not_mem_nil,or_false] at hr;rcases hr with rfl|rfl|rfl|rfl|rfl|rfl|rfl|rfl <;> exact ⟨_,rfl,by decide,by decide⟩)))).2 (fun x=>0≤x∧x≤8) ⟨by decide,by decide⟩ (by intro r hr;simp only [rowsIn,List.nil_append,List.cons_append,List.mem_cons,List.not_mem_nil,or_false] at hr;rcases hr with rfl|rfl|rfl|rfl|rfl|rfl|rfl|rfl <;> exact ⟨by decide,by decide⟩)).1,rfl⟩
  rintro n s ⟨z,m,o,I,H,rfl,hm0,hm1,ok1,hL,h1,h2,h3⟩
  have hlen:=hL.len
  repeat' first
    | (refine And.intro ?_ ?_)
    | (intro h;simp only [reduceCtorEq] at h;done)
    | (intro h;rw [h])
    | (intro h)
  all_goals first
    | (show lowEdges _=true;kernel_rfl)|(show logOk _ _=true;kernel_rfl)|exact True.intro|exact Or.inr rfl|exact Or.inl rfl
    | exact ⟨_,rfl⟩
    | exact ⟨_,_,rfl⟩
    | (show Alive _ _;rfl)
    | (show List.length _=_;rfl)
    | exact ⟨_,_,_,_,(by repeat (first|exact ok|exact ok1|exact ok2|refine byteI_ok ?_|refine (q212 _ _ _ ?_).1|refine (q213 _ _ _ ?_).1|refine (q218 _ _ _ ?_).1|refine (q144 _ _ _ ?_).1|refine (q259 _ _ _ ?_).1|refine (q193 _ _ _ _ ?_ ⟨by decide,by decide⟩ (wfPick (wfInts rfl rfl (by decide) (by intro r hr;simp only [rowsIn,List.nil_append,List.cons_append,List.mem_cons,List.not_mem_nil,or_false] at hr;rcases hr with rfl|rfl|rfl|rfl|rfl|rfl|rfl|rfl <;> exact ⟨_,rfl,by decide,by decide⟩)))).1)),hl,rfl⟩
    | exact ⟨_,_,_,_,(by repeat (first|exact ok|exact ok1|exact ok2|refine byteI_ok ?_|refine (q212 _ _ _ ?_).1|refine (q213 _ _ _ ?_).1|refine (q218 _ _ _ ?_).1|refine (q144 _ _ _ ?_).1|refine (q259 _ _ _ ?_).1|refine (q193 _ _ _ _ ?_ ⟨by decide,by decide⟩ (wfPick (wfInts rfl rfl (by decide) (by intro r hr;simp only [rowsIn,List.nil_append,List.cons_append,List.mem_cons,List.not_mem_nil,or_false] at hr;rcases hr with rfl|rfl|rfl|rfl|rfl|rfl|rfl|rfl <;> exact ⟨_,rfl,by decide,by decide⟩)))).1)),⟨by decide,by decide⟩,rfl⟩
    | exact ⟨_,_,_,(by repeat (first|exact ok|exact ok1|exact ok2|refine byteI_ok ?_|refine (q212 _ _ _ ?_).1|refine (q213 _ _ _ ?_).1|refine (q218 _ _ _ ?_).1|refine (q144 _ _ _ ?_).1|refine (q259 _ _ _ ?_).1|refine (q193 _ _ _ _ ?_ ⟨by decide,by decide⟩ (wfPick (wfInts rfl rfl (by decide) (by intro r hr;simp only [rowsIn,List.nil_append,List.cons_append,List.mem_cons,List.not_mem_nil,or_false] at hr;rcases hr with rfl|rfl|rfl|rfl|rfl|rfl|rfl|rfl <;> exact ⟨_,rfl,by decide,by decide⟩)))).1)),rfl⟩
    | exact ⟨_,_,_,_,(by repeat (first|exact ok|exact ok1|exact ok2|refine byteI_ok ?_|refine (q212 _ _ _ ?_).1|refine (q213 _ _ _ ?_).1|refine (q218 _ _ _ ?_).1|refine (q144 _ _ _ ?_).1|refine (q259 _ _ _ ?_).1|refine (q193 _ _ _ _ ?_ ⟨by decide,by decide⟩ (wfPick (wfInts rfl rfl (by decide) (by intro r hr;simp only [rowsIn,List.nil_append,List.cons_append,List.mem_cons,List.not_mem_nil,or_false] at hr;rcases hr with rfl|rfl|rfl|rfl|rfl|rfl|rfl|rfl <;> exact ⟨_,rfl,by decide,by decide⟩)))).1)),rfl⟩
    | (show o.length+1≤maxLen;simp only [maxLen];omega)
    | (show (o.length+1) * 112≤140737488355328;omega)
    | (have hz:z < m:=of_decide_eq_true ‹decide (z < m)=true›
       have e:(z+1).toNat * 21=z.toNat * 21+1+20:=by omega
       refine ⟨m.toNat - (z+1).toNat,by omega,z+1,m,_,_,_,congrArg (fun q=>(([.ptr 26 0 0,.val false [.i .i64 1],.ptr 4 1 0,.ptr 5 1 0,.val false [.i .i64 _],.val false [.i .i64 q]],[(0,[.val false [.sl false 5 rows],.val false [.i .i64 _],.val false [.i .i64 _]]),(1,[.val false [.i .i64 0],.val false [.i .i64 0],.val false [.i .i64 0],.val false [.s ByteArray.empty],.val false [.sl true 33 []],.val false [.sl true 9 []],.val false [.sl true 91 []]]),(1,[.val false [.i .i64 3],.val false [.i .i64 0],.val false [.i .i64 0],.val false [.s ByteArray.empty],.val false [.sl true 33 (_)],.val false [.sl true 9 ([])],.val false [.sl true 91 ([])]])]):Snap)) (wrap_i64_in (by omega) (by omega)),hm0,hm1,(q258d1 rows I H ok1 (wfN _ (by decide) (by decide))).1,?_,by omega,by omega,rfl⟩
       rw [e]
       exact hL.add rfl (by omega) ((q258d1 rows I H ok1 (wfN _ (by decide) (by decide))).2.wf (by decide)) (by rw [VL.w];exact (q258d1 rows I H ok1 (wfN _ (by decide) (by decide))).2.2.2.2.1))
    | refine ⟨(⟨_,_,_,_,_,_,_⟩,_,_),?_,rfl,rfl,True.intro⟩
    | skip
  all_goals first
    | exact ⟨ok1,(show inK .i64 3 from ⟨by decide,by decide⟩),zero_inK _,zero_inK _,(by have:=hL.1;show 0+o.length+wRows o+0+0+0+0≤189;omega),hL.2,.nil _,.nil _⟩
    | skip
theorem any258d2:∃ g:List SV→VL × Int × Int,FOk Tryz.prog T 258 { pre:=fun a=>∃ rows i h0,CurOk rows i∧a=[curA 5 rows i h0,.val false [.i .i64 2]],res:=fun a=>(fun (x:VL × Int × Int)=>x.1.own 33 9 91) (g a),bx:=true,upd:=fun a=>curU 5 a (g a).2.1 (g a).2.2 } ∧
    ∀ cs args,(fun a=>∃ rows i h0,CurOk rows i∧a=[curA 5 rows i h0,.val false [.i .i64 2]]) (.tup [(true,cs)] :: args)→(∀ a ∈ args,WfSV T a)→(fun (a:List SV) (x:VL × Int × Int)=>CurOk (rowsOf a) x.2.1∧(fun x:VL=>VL.ok T 33 9 91 189 x) x.1) (.tup [(true,cs)] :: args) (g (.tup [(true,cs)] :: args)):=by
  obtain ⟨g214d1,k214d1,p214d1⟩:=any214d1
  have q214d1:∀ (rows:List (List D)) (i h0:Int),CurOk rows i→(∀ a ∈ ([.val false [.i .i64 1]]:List SV),WfSV T a)→CurOk rows (g214d1 [curA 5 rows i h0,.val false [.i .i64 1]]).2.1∧(fun (a:List SV) (x:VL)=>VL.ok T 33 9 91 189 x) [curA 5 rows i h0,.val false [.i .i64 1]] (g214d1 [curA 5 rows i h0,.val false [.i .i64 1]]).1:=fun rows i h0 ok hw=>p214d1 _ _ ⟨rows,i,h0,ok,rfl⟩ (hw)
  clear p214d1
  obtain ⟨g213,k213,p213⟩:=any213
  have q213:∀ (rows:List (List D)) (i h0:Int),CurOk rows i→CurOk rows (g213 [curA 5 rows i h0]).2.1∧(fun (a:List SV) (x:ByteArray)=>x.size≤20) [curA 5 rows i h0] (g213 [curA 5 rows i h0]).1:=fun rows i h0 ok=>p213 _ _ ⟨rows,i,h0,ok,rfl⟩ (by intro a ha;cases ha)
  clear p213
  obtain ⟨g212,k212,p212⟩:=any212
  have q212:∀ (rows:List (List D)) (i h0:Int),CurOk rows i→CurOk rows (g212 [curA 5 rows i h0]).2.1∧(fun (a:List SV) (x:Int)=>inK .i64 x) [curA 5 rows i h0] (g212 [curA 5 rows i h0]).1:=fun rows i h0 ok=>p212 _ _ ⟨rows,i,h0,ok,rfl⟩ (by intro a ha;cases ha)
  clear p212
  refine fokBA (α:=VL × Int × Int) (fun _ x=>x.1.own 33 9 91) (fun a x=>curU 5 a x.2.1 x.2.2) (post:=fun a x=>CurOk (rowsOf a) x.2.1∧(fun x:VL=>VL.ok T 33 9 91 189 x) x.1) (env:=envL [(128,(spOnce 5)),(214, { pre:=fun a=>∃ rows i h0,CurOk rows i∧a=[curA 5 rows i h0,.val false [.i .i64 1]],res:=fun a=>(fun (x:VL × Int × Int)=>x.1.own 33 9 91) (g214d1 a),bx:=true,upd:=fun a=>curU 5 a (g214d1 a).2.1 (g214d1 a).2.2 }),(213, { pre:=fun a=>∃ rows i h0,CurOk rows i∧a=[curA 5 rows i h0],res:=fun a=>(fun (x:ByteArray × Int × Int)=>.val false [.s x.1]) (g213 a),bx:=true,upd:=fun a=>curU 5 a (g213 a).2.1 (g213 a).2.2 }),(170,spv170),(212, { pre:=fun a=>∃ rows i h0,CurOk rows i∧a=[curA 5 rows i h0],res:=fun a=>(fun (x:Int × Int × Int)=>.val false [.i .i64 x.1]) (g212 a),bx:=true,upd:=fun a=>curU 5 a (g212 a).2.1 (g212 a).2.2 }),(177,spv177)]) (N:=23) tabT (envL_cons ok128 (envL_cons k214d1 (envL_cons k213 (envL_cons okv170 (envL_cons k212 (envL_cons okv177 envL_nil)))))) mixed Tryz.func258 rfl Tryz.call258 Tryz.ntmps258 ?_
  rintro cs args ⟨rows,i,h0,ok,he⟩ hwf
  obtain ⟨rfl,rfl⟩:cs=curC 5 rows i h0∧args=[.val false [.i .i64 2]]:=by simpa only [List.cons.injEq,SV.tup.injEq,Prod.mk.injEq,true_and,and_true] using he
  refine ⟨by simp,?_⟩
  clear he
  rw [Tryz.results258]
  repeat' first
    | (refine And.intro ?_ ?_)
    | (intro h;simp only [reduceCtorEq] at h;done)
    | (intro h;rw [h])
    | (intro h)
  all_goals first
    | (show lowEdges _=true;kernel_rfl)|(show logOk _ _=true;kernel_rfl)|exact True.intro|exact Or.inr rfl|exact Or.inl rfl
    | (show Alive _ _;rfl)
    | (show List.length _=_;rfl)
    | exact ⟨_,_,_,_,(by repeat (first|exact ok|exact ok1|exact ok2|refine byteI_ok ?_|refine (q212 _ _ _ ?_).1|refine (q213 _ _ _ ?_).1|refine (q218 _ _ _ ?_).1|refine (q144 _ _ _ ?_).1|refine (q259 _ _ _ ?_).1)),hl,rfl⟩
    | exact ⟨_,_,_,_,(by repeat (first|exact ok|exact ok1|exact ok2|refine byteI_ok ?_|refine (q212 _ _ _ ?_).1|refine (q213 _ _ _ ?_).1|refine (q218 _ _ _ ?_).1|refine (q144 _ _ _ ?_).1|refine (q259 _ _ _ ?_).1)),⟨by decide,by decide⟩,rfl⟩
    | exact ⟨_,_,_,(by repeat (first|exact ok|exact ok1|exact ok2|refine byteI_ok ?_|refine (q212 _ _ _ ?_).1|refine (q213 _ _ _ ?_).1|refine (q218 _ _ _ ?_).1|refine (q144 _ _ _ ?_).1|refine (q259 _ _ _ ?_).1)),rfl⟩
    | exact ⟨_,_,_,_,(by repeat (first|exact ok|exact ok1|exact ok2|refine byteI_ok ?_|refine (q212 _ _ _ ?_).1|refine (q213 _ _ _ ?_).1|refine (q218 _ _ _ ?_).1|refine (q144 _ _ _ ?_).1|refine (q259 _ _ _ ?_).1)),rfl⟩
    | exact ⟨_,rfl⟩
    | exact ⟨_,_,rfl⟩
    | exact ⟨_,_,_,(by repeat (first|exact ok|exact ok1|exact ok2|refine byteI_ok ?_|refine (q212 _ _ _ ?_).1|refine (q213 _ _ _ ?_).1|refine (q218 _ _ _ ?_).1|refine (q144 _ _ _ ?_).1|refine (q259 _ _ _ ?_).1)),by with_reducible rfl⟩
    | refine ⟨(⟨_,_,_,_,_,_,_⟩,_,_),?_,rfl,rfl,True.intro⟩
    | skip
  all_goals first
    | exact ⟨(by repeat (first|exact ok|exact ok1|exact ok2|refine byteI_ok ?_|refine (q212 _ _ _ ?_).1|refine (q213 _ _ _ ?_).1|refine (q218 _ _ _ ?_).1|refine (q144 _ _ _ ?_).1|refine (q259 _ _ _ ?_).1)),VL.num_ok (q212 _ _ _ (by repeat (first|exact ok|exact ok1|exact ok2|refine byteI_ok ?_|refine (q212 _ _ _ ?_).1|refine (q213 _ _ _ ?_).1|refine (q218 _ _ _ ?_).1|refine (q144 _ _ _ ?_).1|refine (q259 _ _ _ ?_).1))).2⟩
    | exact ⟨(by repeat (first|exact ok|exact ok1|exact ok2|refine byteI_ok ?_|refine (q212 _ _ _ ?_).1|refine (q213 _ _ _ ?_).1|refine (q218 _ _ _ ?_).1|refine (q144 _ _ _ ?_).1|refine (q259 _ _ _ ?_).1)),VL.txt_ok (q213 _ _ _ (by repeat (first|exact ok|exact ok1|exact ok2|refine byteI_ok ?_|refine (q212 _ _ _ ?_).1|refine (q213 _ _ _ ?_).1|refine (q218 _ _ _ ?_).1|refine (q144 _ _ _ ?_).1|refine (q259 _ _ _ ?_).1))).2⟩
    | exact ⟨(q214d1 _ _ _ (by repeat (first|exact ok|exact ok1|exact ok2|refine byteI_ok ?_|refine (q212 _ _ _ ?_).1|refine (q213 _ _ _ ?_).1|refine (q218 _ _ _ ?_).1|refine (q144 _ _ _ ?_).1|refine (q259 _ _ _ ?_).1)) (wfN _ (by decide) (by decide))).1,(q214d1 _ _ _ (by repeat (first|exact ok|exact ok1|exact ok2|refine byteI_ok ?_|refine (q212 _ _ _ ?_).1|refine (q213 _ _ _ ?_).1|refine (q218 _ _ _ ?_).1|refine (q144 _ _ _ ?_).1|refine (q259 _ _ _ ?_).1)) (wfN _ (by decide) (by decide))).2⟩
    | skip
theorem any214d2:∃ g:List SV→VL × Int × Int,FOk Tryz.prog T 214 { pre:=fun a=>∃ rows i h0,CurOk rows i∧a=[curA 5 rows i h0,.val false [.i .i64 2]],res:=fun a=>(fun (x:VL × Int × Int)=>x.1.own 33 9 91) (g a),bx:=true,upd:=fun a=>curU 5 a (g a).2.1 (g a).2.2 } ∧
    ∀ cs args,(fun a=>∃ rows i h0,CurOk rows i∧a=[curA 5 rows i h0,.val false [.i .i64 2]]) (.tup [(true,cs)] :: args)→(∀ a ∈ args,WfSV T a)→(fun (a:List SV) (x:VL × Int × Int)=>CurOk (rowsOf a) x.2.1∧(fun x:VL=>VL.ok T 33 9 91 1701 x) x.1) (.tup [(true,cs)] :: args) (g (.tup [(true,cs)] :: args)):=by
  obtain ⟨g193,k193,p193⟩:=any193
  have q193:∀ (rows:List (List D)) (i h0:Int) (l:List (List D)),CurOk rows i→smallN (l.length:Int)→(∀ a ∈ ([argS 3 l]:List SV),WfSV T a)→CurOk rows (g193 [curA 5 rows i h0,argS 3 l]).2.1∧(fun (a:List SV) (x:Int)=>∀ P:Int→Prop,P 0→(∀ r ∈ rowsIn a,P (r.getD 0 default).int)→P x) [curA 5 rows i h0,argS 3 l] (g193 [curA 5 rows i h0,argS 3 l]).1:=fun rows i h0 l ok hp hw=>p193 _ _ ⟨rows,i,h0,l,ok,hp,rfl⟩ (hw)
  clear p193
  obtain ⟨g258d2,k258d2,p258d2⟩:=any258d2
  have q258d2:∀ (rows:List (List D)) (i h0:Int),CurOk rows i→(∀ a ∈ ([.val false [.i .i64 2]]:List SV),WfSV T a)→CurOk rows (g258d2 [curA 5 rows i h0,.val false [.i .i64 2]]).2.1∧(fun (a:List SV) (x:VL)=>VL.ok T 33 9 91 189 x) [curA 5 rows i h0,.val false [.i .i64 2]] (g258d2 [curA 5 rows i h0,.val false [.i .i64 2]]).1:=fun rows i h0 ok hw=>p258d2 _ _ ⟨rows,i,h0,ok,rfl⟩ (hw)
  clear p258d2
  refine fokBA (α:=VL × Int × Int) (fun _ x=>x.1.own 33 9 91) (fun a x=>curU 5 a x.2.1 x.2.2) (post:=fun a x=>CurOk (rowsOf a) x.2.1∧(fun x:VL=>VL.ok T 33 9 91 1701 x) x.1) (env:=envL [(193, { pre:=fun a=>∃ rows i h0 l,CurOk rows i∧smallN (l.length:Int)∧a=[curA 5 rows i h0,argS 3 l],res:=fun a=>(fun (x:Int × Int × Int)=>.val false [.i .i64 x.1]) (g193 a),bx:=true,upd:=fun a=>curU 5 a (g193 a).2.1 (g193 a).2.2 }),(258, { pre:=fun a=>∃ rows i h0,CurOk rows i∧a=[curA 5 rows i h0,.val false [.i .i64 2]],res:=fun a=>(fun (x:VL × Int × Int)=>x.1.own 33 9 91) (g258d2 a),bx:=true,upd:=fun a=>curU 5 a (g258d2 a).2.1 (g258d2 a).2.2 })]) (N:=26) tabT (envL_cons k193 (envL_cons k258d2 envL_nil)) mixed Tryz.func214 rfl Tryz.call214 Tryz.ntmps214 ?_
  rintro cs args ⟨rows,i,h0,ok,he⟩ hwf
  obtain ⟨rfl,rfl⟩:cs=curC 5 rows i h0∧args=[.val false [.i .i64 2]]:=by simpa only [List.cons.injEq,SV.tup.injEq,Prod.mk.injEq,true_and,and_true] using he
  refine ⟨by simp,?_⟩
  clear he
  rw [Tryz.results214]
  repeat' first
    | (refine And.intro ?_ ?_)
    | (intro h;simp only [reduceCtorEq] at h;done)
    | (intro h;rw [h])
    | (intro h)
  all_goals first
    | (show lowEdges _=true;kernel_rfl)|(show logOk _ _=true;kernel_rfl)|exact True.intro|exact Or.inr rfl|exact Or.inl rfl
    | (show Alive _ _;rfl)
    | (show List.length _=_;rfl)
    | exact ⟨_,_,_,_,(by repeat (first|exact ok|exact ok1|exact ok2|refine byteI_ok ?_|refine (q212 _ _ _ ?_).1|refine (q213 _ _ _ ?_).1|refine (q218 _ _ _ ?_).1|refine (q144 _ _ _ ?_).1|refine (q259 _ _ _ ?_).1|refine (q193 _ _ _ _ ?_ ⟨by decide,by decide⟩ (wfPick (wfInts rfl rfl (by decide) (by intro r hr;simp only [rowsIn,List.nil_append,List.cons_append,List.mem_cons,List.not_mem_nil,or_false] at hr;rcases hr with rfl|rfl|rfl|rfl|rfl|rfl|rfl|rfl <;> exact ⟨_,rfl,by decide,by decide⟩)))).1)),hl,rfl⟩
    | exact ⟨_,_,_,_,(by repeat (first|exact ok|exact ok1|exact ok2|refine byteI_ok ?_|refine (q212 _ _ _ ?_).1|refine (q213 _ _ _ ?_).1|refine (q218 _ _ _ ?_).1|refine (q144 _ _ _ ?_).1|refine (q259 _ _ _ ?_).1|refine (q193 _ _ _ _ ?_ ⟨by decide,by decide⟩ (wfPick (wfInts rfl rfl (by decide) (by intro r hr;simp only [rowsIn,List.nil_append,List.cons_append,List.mem_cons,List.not_mem_nil,or_false] at hr;rcases hr with rfl|rfl|rfl|rfl|rfl|rfl|rfl|rfl <;> exact ⟨_,rfl,by decide,by decide⟩)))).1)),⟨by decide,by decide⟩,rfl⟩
    | exact ⟨_,_,_,(by repeat (first|exact ok|exact ok1|exact ok2|refine byteI_ok ?_|refine (q212 _ _ _ ?_).1|refine (q213 _ _ _ ?_).1|refine (q218 _ _ _ ?_).1|refine (q144 _ _ _ ?_).1|refine (q259 _ _ _ ?_).1|refine (q193 _ _ _ _ ?_ ⟨by decide,by decide⟩ (wfPick (wfInts rfl rfl (by decide) (by intro r hr;simp only [rowsIn,List.nil_append,List.cons_append,List.mem_cons,List.not_mem_nil,or_false] at hr;rcases hr with rfl|rfl|rfl|rfl|rfl|rfl|rfl|rfl <;> exact ⟨_,rfl,by decide,by decide⟩)))).1)),rfl⟩
    | exact ⟨_,_,_,_,(by repeat (first|exact ok|exact ok1|exact ok2|refine byteI_ok ?_|refine (q212 _ _ _ ?_).1|refine (q213 _ _ _ ?_).1|refine (q218 _ _ _ ?_).1|refine (q144 _ _ _ ?_).1|refine (q259 _ _ _ ?_).1|refine (q193 _ _ _ _ ?_ ⟨by decide,by decide⟩ (wfPick (wfInts rfl rfl (by decide) (by intro r hr;simp only [rowsIn,List.nil_append,List.cons_append,List.mem_cons,List.not_mem_nil,or_false] at hr;rcases hr with rfl|rfl|rfl|rfl|rfl|rfl|rfl|rfl <;> exact ⟨_,rfl,by decide,by decide⟩)))).1)),rfl⟩
    | refine ⟨(⟨_,_,_,_,_,_,_⟩,_,_),?_,rfl,rfl,True.intro⟩
    | skip
  refine awp_loop (Q:=_) [0,1,4,5,6,7] [26,4,5] (fun n s=>∃ (z m:Int) (o:List (List D)) (I H:Int),s=([.ptr 26 0 0,.val false [.i .i64 2],.ptr 4 1 0,.ptr 5 1 0,.val false [.i .i64 m],.val false [.i .i64 z]],[(0,[.val false [.sl false 5 rows],.val false [.i .i64 I],.val false [.i .i64 H]]),(1,[.val false [.i .i64 0],.val false [.i .i64 0],.val false [.i .i64 0],.val false [.s ByteArray.empty],.val false [.sl true 33 []],.val false [.sl true 9 []],.val false [.sl true 91 []]]),(1,[.val false [.i .i64 3],.val false [.i .i64 0],.val false [.i .i64 0],.val false [.s ByteArray.empty],.val false [.sl true 33 (o)],.val false [.sl true 9 ([])],.val false [.sl true 91 ([])]])])∧0≤m∧m≤8∧CurOk rows I∧LS T 33 (z.toNat * 190) o∧0≤z∧z≤m∧n=m.toNat - z.toNat) ?_ ?_
  · exact ⟨rfl,_,0,_,_,_,_,rfl,((q193 _ _ _ _ (by repeat (first|exact ok|exact ok1|exact ok2|refine byteI_ok ?_|refine (q212 _ _ _ ?_).1|refine (q213 _ _ _ ?_).1|refine (q218 _ _ _ ?_).1|refine (q144 _ _ _ ?_).1|refine (q259 _ _ _ ?_).1|refine (q193 _ _ _ _ ?_ ⟨by decide,by decide⟩ (wfPick (wfInts rfl rfl (by decide) (by intro r hr;simp only [rowsIn,List.nil_append,List.cons_append,List.mem_cons,List.not_mem_nil,or_false] at hr;rcases hr with rfl|rfl|rfl|rfl|rfl|rfl|rfl|rfl <;> exact ⟨_,rfl,by decide,by decide⟩)))).1)) ⟨by decide,by decide⟩ (wfPick (wfInts rfl rfl (by decide) (by intro r hr;simp only [rowsIn,List.nil_append,List.cons_append,List.mem_cons,List.not_mem_nil,or_false] at hr;rcases hr with rfl|rfl|rfl|rfl|rfl|rfl|rfl|rfl <;> exact ⟨_,rfl,by decide,by decide⟩)))).2 (fun x=>0≤x∧x≤8) ⟨by decide,by decide⟩ (by intro r hr;simp only [rowsIn,List.nil_append,List.cons_append,List.mem_cons,List.not_mem_nil,or_false] at hr;rcases hr with rfl|rfl|rfl|rfl|rfl|rfl|rfl|rfl <;> exact ⟨by decide,by decide⟩)).1,((q193 _ _ _ _ (by repeat (first|exact ok|exact ok1|exact ok2|refine byteI_ok ?_|refine (q212 _ _ _ ?_).1|refine (q213 _ _ _ ?_).1|refine (q218 _ _ _ ?_).1|refine (q144 _ _ _ ?_).1|refine (q259 _ _ _ ?_).1|refine (q193 _ _ _ _ ?_ ⟨by decide,by decide⟩ (wfPick (wfInts rfl rfl (by decide) (by intro r hr;simp only [rowsIn,List.nil_append,List.cons_append,List.mem_cons,List.not_mem_nil,or_false] at hr;rcases hr with rfl|rfl|rfl|rfl|rfl|rfl|rfl|rfl <;> exact ⟨_,rfl,by decide,by decide⟩)))).1)) ⟨by decide,by decide⟩ (wfPick (wfInts rfl rfl (by decide) (by intro r hr;simp only [rowsIn,List.nil_append,List.cons_append,List.mem_cons,List.not_mem_nil,or_false] at hr;rcases hr with rfl|rfl|rfl|rfl|rfl|rfl|rfl|rfl <;> exact ⟨_,rfl,by decide,by decide⟩)))).2 (fun x=>0≤x∧x≤8) ⟨by decide,by decide⟩ (by intro r hr;simp only [rowsIn,List.nil_append,List.cons_append,List.mem_cons,List.not_mem_nil,or_false] at hr;rcases hr with rfl|rfl|rfl|rfl|rfl|rfl|rfl|rfl <;> exact ⟨by decide,by decide⟩)).2,(by repeat (first|exact ok|exact ok1|exact ok2|refine byteI_ok ?_|refine (q212 _ _ _ ?_).1|refine (q213 _ _ _ ?_).1|refine (q218 _ _ _ ?_).1|refine (q144 _ _ _ ?_).1|refine (q259 _ _ _ ?_).1|refine (q193 _ _ _ _ ?_ ⟨by decide,by decide⟩ (wfPick (wfInts rfl rfl (by decide) (by intro r hr;simp only [rowsIn,List.nil_append,List.cons_append,List.mem_cons,List.not_mem_nil,or_false] at hr;rcases hr with rfl|rfl|rfl|rfl|rfl|rfl|rfl|rfl <;> exact ⟨_,rfl,by decide,by decide⟩)))).1)),LS.nil,by decide,((q193 _ _ _ _ (by repeat (first|exact ok|exact ok1|exact ok2|refine byteI_ok ?_|refine (q212 _ _ _ ?_).1|refine (q213 _ _ _ ?_).1|refine (q218 _ _ _ ?_).1|refine (q144 _ _ _ ?_).1|refine (q259 _ _ _ ?_).1|refine (q193 _ _ _ _ ?_ ⟨by decide,by decide⟩ (wfPick (wfInts rfl rfl (by decide) (by intro r hr;simp only [rowsIn,List.nil_append,List.cons_append,List.mem_cons,List.not_mem_nil,or_false] at hr;rcases hr with rfl|rfl|rfl|rfl|rfl|rfl|rfl|rfl <;> exact ⟨_,rfl,by decide,by decide⟩)))).1)) ⟨by decide,by decide⟩ (wfPick (wfInts rfl rfl (by decide) (by intro r hr;simp only [rowsIn,List.nil_append,List.cons_append,List.mem_cons,List.not_mem_nil,or_false] at hr;rcases hr with rfl|rfl|rfl|rfl|rfl|rfl|rfl|rfl <;> exact ⟨_,rfl,by decide,by decide⟩)))).2 (fun x=>0≤x∧x≤8) ⟨by decide,by decide⟩ (by intro r hr;simp only [rowsIn,List.nil_append,List.cons_append,List.mem_cons,List.not_mem_nil,or_false] at hr;rcases hr with rfl|rfl|rfl|rfl|rfl|rfl|rfl|rfl <;> exact ⟨by decide,by decide⟩)).1,rfl⟩
  rintro n s ⟨z,m,o,I,H,rfl,hm0,hm1,ok1,hL,h1,h2,h3⟩
  have hlen:=hL.len
  repeat' first
    | (refine And.intro ?_ ?_)
    | (intro h;simp only [reduceCtorEq] at h;done)
    | (intro h;rw [h])
    | (intro h)
  all_goals first
    | (show lowEdges _=true;kernel_rfl)|(show logOk _ _=true;kernel_rfl)|exact True.intro|exact Or.inr rfl|exact Or.inl rfl
    | exact ⟨_,rfl⟩
    | exact ⟨_,_,rfl⟩
    | (show Alive _ _;rfl)
    | (show List.length _=_;rfl)
    | exact ⟨_,_,_,_,(by repeat (first|exact ok|exact ok1|exact ok2|refine byteI_ok ?_|refine (q212 _ _ _ ?_).1|refine (q213 _ _ _ ?_).1|refine (q218 _ _ _ ?_).1|refine (q144 _ _ _ ?_).1|refine (q259 _ _ _ ?_).1|refine (q193 _ _ _ _ ?_ ⟨by decide,by decide⟩ (wfPick (wfInts rfl rfl (by decide) (by intro r hr;simp only [rowsIn,List.nil_append,List.cons_append,List.mem_cons,List.not_mem_nil,or_false] at hr;rcases hr with rfl|rfl|rfl|rfl|rfl|rfl|rfl|rfl <;> exact ⟨_,rfl,by decide,by decide⟩)))).1)),hl,rfl⟩
    | exact ⟨_,_,_,_,(by repeat (first|exact ok|exact ok1|exact ok2|refine byteI_ok ?_|refine (q212 _ _ _ ?_).1|refine (q213 _ _ _ ?_).1|refine (q218 _ _ _ ?_).1|refine (q144 _ _ _ ?_).1|refine (q259 _ _ _ ?_).1|refine (q193 _ _ _ _ ?_ ⟨by decide,by decide⟩ (wfPick (wfInts rfl rfl (by decide) (by intro r hr;simp only [rowsIn,List.nil_append,List.cons_append,List.mem_cons,List.not_mem_nil,or_false] at hr;rcases hr with rfl|rfl|rfl|rfl|rfl|rfl|rfl|rfl <;> exact ⟨_,rfl,by decide,by decide⟩)))).1)),⟨by decide,by decide⟩,rfl⟩
    | exact ⟨_,_,_,(by repeat (first|exact ok|exact ok1|exact ok2|refine byteI_ok ?_|refine (q212 _ _ _ ?_).1|refine (q213 _ _ _ ?_).1|refine (q218 _ _ _ ?_).1|refine (q144 _ _ _ ?_).1|refine (q259 _ _ _ ?_).1|refine (q193 _ _ _ _ ?_ ⟨by decide,by decide⟩ (wfPick (wfInts rfl rfl (by decide) (by intro r hr;simp only [rowsIn,List.nil_append,List.cons_append,List.mem_cons,List.not_mem_nil,or_false] at hr;rcases hr with rfl|rfl|rfl|rfl|rfl|rfl|rfl|rfl <;> exact ⟨_,rfl,by decide,by decide⟩)))).1)),rfl⟩
    | exact ⟨_,_,_,_,(by repeat (first|exact ok|exact ok1|exact ok2|refine byteI_ok ?_|refine (q212 _ _ _ ?_).1|refine (q213 _ _ _ ?_).1|refine (q218 _ _ _ ?_).1|refine (q144 _ _ _ ?_).1|refine (q259 _ _ _ ?_).1|refine (q193 _ _ _ _ ?_ ⟨by decide,by decide⟩ (wfPick (wfInts rfl rfl (by decide) (by intro r hr;simp only [rowsIn,List.nil_append,List.cons_append,List.mem_cons,List.not_mem_nil,or_false] at hr;rcases hr with rfl|rfl|rfl|rfl|rfl|rfl|rfl|rfl <;> exact ⟨_,rfl,by decide,by decide⟩)))).1)),rfl⟩
    | (show o.length+1≤maxLen;simp only [maxLen];omega)
    | (show (o.length+1) * 112≤140737488355328;omega)
    | (have hz:z < m:=of_decide_eq_true ‹decide (z < m)=true›
       have e:(z+1).toNat * 190=z.toNat * 190+1+189:=by omega
       refine ⟨m.toNat - (z+1).toNat,by omega,z+1,m,_,_,_,congrArg (fun q=>(([.ptr 26 0 0,.val false [.i .i64 2],.ptr 4 1 0,.ptr 5 1 0,.val false [.i .i64 _],.val false [.i .i64 q]],[(0,[.val false [.sl false 5 rows],.val false [.i .i64 _],.val false [.i .i64 _]]),(1,[.val false [.i .i64 0],.val false [.i .i64 0],.val false [.i .i64 0],.val false [.s ByteArray.empty],.val false [.sl true 33 []],.val false [.sl true 9 []],.val false [.sl true 91 []]]),(1,[.val false [.i .i64 3],.val false [.i .i64 0],.val false [.i .i64 0],.val false [.s ByteArray.empty],.val false [.sl true 33 (_)],.val false [.sl true 9 ([])],.val false [.sl true 91 ([])]])]):Snap)) (wrap_i64_in (by omega) (by omega)),hm0,hm1,(q258d2 rows I H ok1 (wfN _ (by decide) (by decide))).1,?_,by omega,by omega,rfl⟩
       rw [e]
       exact hL.add rfl (by omega) ((q258d2 rows I H ok1 (wfN _ (by decide) (by decide))).2.wf (by decide)) (by rw [VL.w];exact (q258d2 rows I H ok1 (wfN _ (by decide) (by decide))).2.2.2.2.1))
    | refine ⟨(⟨_,_,_,_,_,_,_⟩,_,_),?_,rfl,rfl,True.intro⟩
    | skip
  all_goals first
    | exact ⟨ok1,(show inK .i64 3 from ⟨by decide,by decide⟩),zero_inK _,zero_inK _,(by have:=hL.1;show 0+o.length+wRows o+0+0+0+0≤1701;omega),hL.2,.nil _,.nil _⟩
    | skip
theorem any258d3:∃ g:List SV→VL × Int × Int,FOk Tryz.prog T 258 { pre:=fun a=>∃ rows i h0,CurOk rows i∧a=[curA 5 rows i h0,.val false [.i .i64 3]],res:=fun a=>(fun (x:VL × Int × Int)=>x.1.own 33 9 91) (g a),bx:=true,upd:=fun a=>curU 5 a (g a).2.1 (g a).2.2 } ∧
    ∀ cs args,(fun a=>∃ rows i h0,CurOk rows i∧a=[curA 5 rows i h0,.val false [.i .i64 3]]) (.tup [(true,cs)] :: args)→(∀ a ∈ args,WfSV T a)→(fun (a:List SV) (x:VL × Int × Int)=>CurOk (rowsOf a) x.2.1∧(fun x:VL=>VL.ok T 33 9 91 1701 x) x.1) (.tup [(true,cs)] :: args) (g (.tup [(true,cs)] :: args)):=by
  obtain ⟨g214d2,k214d2,p214d2⟩:=any214d2
  have q214d2:∀ (rows:List (List D)) (i h0:Int),CurOk rows i→(∀ a ∈ ([.val false [.i .i64 2]]:List SV),WfSV T a)→CurOk rows (g214d2 [curA 5 rows i h0,.val false [.i .i64 2]]).2.1∧(fun (a:List SV) (x:VL)=>VL.ok T 33 9 91 1701 x) [curA 5 rows i h0,.val false [.i .i64 2]] (g214d2 [curA 5 rows i h0,.val false [.i .i64 2]]).1:=fun rows i h0 ok hw=>p214d2 _ _ ⟨rows,i,h0,ok,rfl⟩ (hw)
  clear p214d2
  obtain ⟨g213,k213,p213⟩:=any213
  have q213:∀ (rows:List (List D)) (i h0:Int),CurOk rows i→CurOk rows (g213 [curA 5 rows i h0]).2.1∧(fun (a:List SV) (x:ByteArray)=>x.size≤20) [curA 5 rows i h0] (g213 [curA 5 rows i h0]).1:=fun rows i h0 ok=>p213 _ _ ⟨rows,i,h0,ok,rfl⟩ (by intro a ha;cases ha)
  clear p213
  obtain ⟨g212,k212,p212⟩:=any212
  have q212:∀ (rows:List (List D)) (i h0:Int),CurOk rows i→CurOk rows (g212 [curA 5 rows i h0]).2.1∧(fun (a:List SV) (x:Int)=>inK .i64 x) [curA 5 rows i h0] (g212 [curA 5 rows i h0]).1:=fun rows i h0 ok=>p212 _ _ ⟨rows,i,h0,ok,rfl⟩ (by intro a ha;cases ha)
  clear p212
  refine fokBA (α:=VL × Int × Int) (fun _ x=>x.1.own 33 9 91) (fun a x=>curU 5 a x.2.1 x.2.2) (post:=fun a x=>CurOk (rowsOf a) x.2.1∧(fun x:VL=>VL.ok T 33 9 91 1701 x) x.1) (env:=envL [(128,(spOnce 5)),(214, { pre:=fun a=>∃ rows i h0,CurOk rows i∧a=[curA 5 rows i h0,.val false [.i .i64 2]],res:=fun a=>(fun (x:VL × Int × Int)=>x.1.own 33 9 91) (g214d2 a),bx:=true,upd:=fun a=>curU 5 a (g214d2 a).2.1 (g214d2 a).2.2 }),(213, { pre:=fun a=>∃ rows i h0,CurOk rows i∧a=[curA 5 rows i h0],res:=fun a=>(fun (x:ByteArray × Int × Int)=>.val false [.s x.1]) (g213 a),bx:=true,upd:=fun a=>curU 5 a (g213 a).2.1 (g213 a).2.2 }),(170,spv170),(212, { pre:=fun a=>∃ rows i h0,CurOk rows i∧a=[curA 5 rows i h0],res:=fun a=>(fun (x:Int × Int × Int)=>.val false [.i .i64 x.1]) (g212 a),bx:=true,upd:=fun a=>curU 5 a (g212 a).2.1 (g212 a).2.2 }),(177,spv177)]) (N:=23) tabT (envL_cons ok128 (envL_cons k214d2 (envL_cons k213 (envL_cons okv170 (envL_cons k212 (envL_cons okv177 envL_nil)))))) mixed Tryz.func258 rfl Tryz.call258 Tryz.ntmps258 ?_
  rintro cs args ⟨rows,i,h0,ok,he⟩ hwf
  obtain ⟨rfl,rfl⟩:cs=curC 5 rows i h0∧args=[.val false [.i .i64 3]]:=by simpa only [List.cons.injEq,SV.tup.injEq,Prod.mk.injEq,true_and,and_true] using he
  refine ⟨by simp,?_⟩
  clear he
  rw [Tryz.results258]
  repeat' first
    | (refine And.intro ?_ ?_)
    | (intro h;simp only [reduceCtorEq] at h;done)
    | (intro h;rw [h])
    | (intro h)
  all_goals first
    | (show lowEdges _=true;kernel_rfl)|(show logOk _ _=true;kernel_rfl)|exact True.intro|exact Or.inr rfl|exact Or.inl rfl
    | (show Alive _ _;rfl)
    | (show List.length _=_;rfl)
    | exact ⟨_,_,_,_,(by repeat (first|exact ok|exact ok1|exact ok2|refine byteI_ok ?_|refine (q212 _ _ _ ?_).1|refine (q213 _ _ _ ?_).1|refine (q218 _ _ _ ?_).1|refine (q144 _ _ _ ?_).1|refine (q259 _ _ _ ?_).1)),hl,rfl⟩
    | exact ⟨_,_,_,_,(by repeat (first|exact ok|exact ok1|exact ok2|refine byteI_ok ?_|refine (q212 _ _ _ ?_).1|refine (q213 _ _ _ ?_).1|refine (q218 _ _ _ ?_).1|refine (q144 _ _ _ ?_).1|refine (q259 _ _ _ ?_).1)),⟨by decide,by decide⟩,rfl⟩
    | exact ⟨_,_,_,(by repeat (first|exact ok|exact ok1|exact ok2|refine byteI_ok ?_|refine (q212 _ _ _ ?_).1|refine (q213 _ _ _ ?_).1|refine (q218 _ _ _ ?_).1|refine (q144 _ _ _ ?_).1|refine (q259 _ _ _ ?_).1)),rfl⟩
    | exact ⟨_,_,_,_,(by repeat (first|exact ok|exact ok1|exact ok2|refine byteI_ok ?_|refine (q212 _ _ _ ?_).1|refine (q213 _ _ _ ?_).1|refine (q218 _ _ _ ?_).1|refine (q144 _ _ _ ?_).1|refine (q259 _ _ _ ?_).1)),rfl⟩
    | exact ⟨_,rfl⟩
    | exact ⟨_,_,rfl⟩
    | exact ⟨_,_,_,(by repeat (first|exact ok|exact ok1|exact ok2|refine byteI_ok ?_|refine (q212 _ _ _ ?_).1|refine (q213 _ _ _ ?_).1|refine (q218 _ _ _ ?_).1|refine (q144 _ _ _ ?_).1|refine (q259 _ _ _ ?_).1)),by with_reducible rfl⟩
    | refine ⟨(⟨_,_,_,_,_,_,_⟩,_,_),?_,rfl,rfl,True.intro⟩
    | skip
  all_goals first
    | exact ⟨(by repeat (first|exact ok|exact ok1|exact ok2|refine byteI_ok ?_|refine (q212 _ _ _ ?_).1|refine (q213 _ _ _ ?_).1|refine (q218 _ _ _ ?_).1|refine (q144 _ _ _ ?_).1|refine (q259 _ _ _ ?_).1)),VL.num_ok (q212 _ _ _ (by repeat (first|exact ok|exact ok1|exact ok2|refine byteI_ok ?_|refine (q212 _ _ _ ?_).1|refine (q213 _ _ _ ?_).1|refine (q218 _ _ _ ?_).1|refine (q144 _ _ _ ?_).1|refine (q259 _ _ _ ?_).1))).2⟩
    | exact ⟨(by repeat (first|exact ok|exact ok1|exact ok2|refine byteI_ok ?_|refine (q212 _ _ _ ?_).1|refine (q213 _ _ _ ?_).1|refine (q218 _ _ _ ?_).1|refine (q144 _ _ _ ?_).1|refine (q259 _ _ _ ?_).1)),VL.txt_ok (q213 _ _ _ (by repeat (first|exact ok|exact ok1|exact ok2|refine byteI_ok ?_|refine (q212 _ _ _ ?_).1|refine (q213 _ _ _ ?_).1|refine (q218 _ _ _ ?_).1|refine (q144 _ _ _ ?_).1|refine (q259 _ _ _ ?_).1))).2⟩
    | exact ⟨(q214d2 _ _ _ (by repeat (first|exact ok|exact ok1|exact ok2|refine byteI_ok ?_|refine (q212 _ _ _ ?_).1|refine (q213 _ _ _ ?_).1|refine (q218 _ _ _ ?_).1|refine (q144 _ _ _ ?_).1|refine (q259 _ _ _ ?_).1)) (wfN _ (by decide) (by decide))).1,(q214d2 _ _ _ (by repeat (first|exact ok|exact ok1|exact ok2|refine byteI_ok ?_|refine (q212 _ _ _ ?_).1|refine (q213 _ _ _ ?_).1|refine (q218 _ _ _ ?_).1|refine (q144 _ _ _ ?_).1|refine (q259 _ _ _ ?_).1)) (wfN _ (by decide) (by decide))).2⟩
    | skip
theorem any214d3:∃ g:List SV→VL × Int × Int,FOk Tryz.prog T 214 { pre:=fun a=>∃ rows i h0,CurOk rows i∧a=[curA 5 rows i h0,.val false [.i .i64 3]],res:=fun a=>(fun (x:VL × Int × Int)=>x.1.own 33 9 91) (g a),bx:=true,upd:=fun a=>curU 5 a (g a).2.1 (g a).2.2 } ∧
    ∀ cs args,(fun a=>∃ rows i h0,CurOk rows i∧a=[curA 5 rows i h0,.val false [.i .i64 3]]) (.tup [(true,cs)] :: args)→(∀ a ∈ args,WfSV T a)→(fun (a:List SV) (x:VL × Int × Int)=>CurOk (rowsOf a) x.2.1∧(fun x:VL=>VL.ok T 33 9 91 15309 x) x.1) (.tup [(true,cs)] :: args) (g (.tup [(true,cs)] :: args)):=by
  obtain ⟨g193,k193,p193⟩:=any193
  have q193:∀ (rows:List (List D)) (i h0:Int) (l:List (List D)),CurOk rows i→smallN (l.length:Int)→(∀ a ∈ ([argS 3 l]:List SV),WfSV T a)→CurOk rows (g193 [curA 5 rows i h0,argS 3 l]).2.1∧(fun (a:List SV) (x:Int)=>∀ P:Int→Prop,P 0→(∀ r ∈ rowsIn a,P (r.getD 0 default).int)→P x) [curA 5 rows i h0,argS 3 l] (g193 [curA 5 rows i h0,argS 3 l]).1:=fun rows i h0 l ok hp hw=>p193 _ _ ⟨rows,i,h0,l,ok,hp,rfl⟩ (hw)
  clear p193
  obtain ⟨g258d3,k258d3,p258d3⟩:=any258d3
  have q258d3:∀ (rows:List (List D)) (i h0:Int),CurOk rows i→(∀ a ∈ ([.val false [.i .i64 3]]:List SV),WfSV T a)→CurOk rows (g258d3 [curA 5 rows i h0,.val false [.i .i64 3]]).2.1∧(fun (a:List SV) (x:VL)=>VL.ok T 33 9 91 1701 x) [curA 5 rows i h0,.val false [.i .i64 3]] (g258d3 [curA 5 rows i h0,.val false [.i .i64 3]]).1:=fun rows i h0 ok hw=>p258d3 _ _ ⟨rows,i,h0,ok,rfl⟩ (hw)
  clear p258d3
  refine fokBA (α:=VL × Int × Int) (fun _ x=>x.1.own 33 9 91) (fun a x=>curU 5 a x.2.1 x.2.2) (post:=fun a x=>CurOk (rowsOf a) x.2.1∧(fun x:VL=>VL.ok T 33 9 91 15309 x) x.1) (env:=envL [(193, { pre:=fun a=>∃ rows i h0 l,CurOk rows i∧smallN (l.length:Int)∧a=[curA 5 rows i h0,argS 3 l],res:=fun a=>(fun (x:Int × Int × Int)=>.val false [.i .i64 x.1]) (g193 a),bx:=true,upd:=fun a=>curU 5 a (g193 a).2.1 (g193 a).2.2 }),(258, { pre:=fun a=>∃ rows i h0,CurOk rows i∧a=[curA 5 rows i h0,.val false [.i .i64 3]],res:=fun a=>(fun (x:VL × Int × Int)=>x.1.own 33 9 91) (g258d3 a),bx:=true,upd:=fun a=>curU 5 a (g258d3 a).2.1 (g258d3 a).2.2 })]) (N:=26) tabT (envL_cons k193 (envL_cons k258d3 envL_nil)) mixed Tryz.func214 rfl Tryz.call214 Tryz.ntmps214 ?_
  rintro cs args ⟨rows,i,h0,ok,he⟩ hwf
  obtain ⟨rfl,rfl⟩:cs=curC 5 rows i h0∧args=[.val false [.i .i64 3]]:=by simpa only [List.cons.injEq,SV.tup.injEq,Prod.mk.injEq,true_and,and_true] using he
  refine ⟨by simp,?_⟩
  clear he
  rw [Tryz.results214]
  repeat' first
    | (refine And.intro ?_ ?_)
    | (intro h;simp only [reduceCtorEq] at h;done)
    | (intro h;rw [h])
    | (intro h)
  all_goals first
    | (show lowEdges _=true;kernel_rfl)|(show logOk _ _=true;kernel_rfl)|exact True.intro|exact Or.inr rfl|exact Or.inl rfl
    | (show Alive _ _;rfl)
    | (show List.length _=_;rfl)
    | exact ⟨_,_,_,_,(by repeat (first|exact ok|exact ok1|exact ok2|refine byteI_ok ?_|refine (q212 _ _ _ ?_).1|refine (q213 _ _ _ ?_).1|refine (q218 _ _ _ ?_).1|refine (q144 _ _ _ ?_).1|refine (q259 _ _ _ ?_).1|refine (q193 _ _ _ _ ?_ ⟨by decide,by decide⟩ (wfPick (wfInts rfl rfl (by decide) (by intro r hr;simp only [rowsIn,List.nil_append,List.cons_append,List.mem_cons,List.not_mem_nil,or_false] at hr;rcases hr with rfl|rfl|rfl|rfl|rfl|rfl|rfl|rfl <;> exact ⟨_,rfl,by decide,by decide⟩)))).1)),hl,rfl⟩
    | exact ⟨_,_,_,_,(by repeat (first|exact ok|exact ok1|exact ok2|refine byteI_ok ?_|refine (q212 _ _ _ ?_).1|refine (q213 _ _ _ ?_).1|refine (q218 _ _ _ ?_).1|refine (q144 _ _ _ ?_).1|refine (q259 _ _ _ ?_).1|refine (q193 _ _ _ _ ?_ ⟨by decide,by decide⟩ (wfPick (wfInts rfl rfl (by decide) (by intro r hr;simp only [rowsIn,List.nil_append,List.cons_append,List.mem_cons,List.not_mem_nil,or_false] at hr;rcases hr with rfl|rfl|rfl|rfl|rfl|rfl|rfl|rfl <;> exact ⟨_,rfl,by decide,by decide⟩)))).1)),⟨by decide,by decide⟩,rfl⟩
    | exact ⟨_,_,_,(by repeat (first|exact ok|exact ok1|exact ok2|refine byteI_ok ?_|refine (q212 _ _ _ ?_).1|refine (q213 _ _ _ ?_).1|refine (q218 _ _ _ ?_).1|refine (q144 _ _ _ ?_).1|refine (q259 _ _ _ ?_).1|refine (q193 _ _ _ _ ?_ ⟨by decide,by decide⟩ (wfPick (wfInts rfl rfl (by decide) (by intro r hr;simp only [rowsIn,List.nil_append,List.cons_append,List.mem_cons,List.not_mem_nil,or_false] at hr;rcases hr with rfl|rfl|rfl|rfl|rfl|rfl|rfl|rfl <;> exact ⟨_,rfl,by decide,by decide⟩)))).1)),rfl⟩
    | exact ⟨_,_,_,_,(by repeat (first|exact ok|exact ok1|exact ok2|refine byteI_ok ?_|refine (q212 _ _ _ ?_).1|refine (q213 _ _ _ ?_).1|refine (q218 _ _ _ ?_).1|refine (q144 _ _ _ ?_).1|refine (q259 _ _ _ ?_).1|refine (q193 _ _ _ _ ?_ ⟨by decide,by decide⟩ (wfPick (wfInts rfl rfl (by decide) (by intro r hr;simp only [rowsIn,List.nil_append,List.cons_append,List.mem_cons,List.not_mem_nil,or_false] at hr;rcases hr with rfl|rfl|rfl|rfl|rfl|rfl|rfl|rfl <;> exact ⟨_,rfl,by decide,by decide⟩)))).1)),rfl⟩
    | refine ⟨(⟨_,_,_,_,_,_,_⟩,_,_),?_,rfl,rfl,True.intro⟩
    | skip
  refine awp_loop (Q:=_) [0,1,4,5,6,7] [26,4,5] (fun n s=>∃ (z m:Int) (o:List (List D)) (I H:Int),s=([.ptr 26 0 0,.val false [.i .i64 3],.ptr 4 1 0,.ptr 5 1 0,.val false [.i .i64 m],.val false [.i .i64 z]],[(0,[.val false [.sl false 5 rows],.val false [.i .i64 I],.val false [.i .i64 H]]),(1,[.val false [.i .i64 0],.val false [.i .i64 0],.val false [.i .i64 0],.val false [.s ByteArray.empty],.val false [.sl true 33 []],.val false [.sl true 9 []],.val false [.sl true 91 []]]),(1,[.val false [.i .i64 3],.val false [.i .i64 0],.val false [.i .i64 0],.val false [.s ByteArray.empty],.val false [.sl true 33 (o)],.val false [.sl true 9 ([])],.val false [.sl true 91 ([])]])])∧0≤m∧m≤8∧CurOk rows I∧LS T 33 (z.toNat * 1702) o∧0≤z∧z≤m∧n=m.toNat - z.toNat) ?_ ?_
  · exact ⟨rfl,_,0,_,_,_,_,rfl,((q193 _ _ _ _ (by repeat (first|exact ok|exact ok1|exact ok2|refine byteI_ok ?_|refine (q212 _ _ _ ?_).1|refine (q213 _ _ _ ?_).1|refine (q218 _ _ _ ?_).1|refine (q144 _ _ _ ?_).1|refine (q259 _ _ _ ?_).1|refine (q193 _ _ _ _ ?_ ⟨by decide,by decide⟩ (wfPick (wfInts rfl rfl (by decide) (by intro r hr;simp only [rowsIn,List.nil_append,List.cons_append,List.mem_cons,List.not_mem_nil,or_false] at hr;rcases hr with rfl|rfl|rfl|rfl|rfl|rfl|rfl|rfl <;> exact ⟨_,rfl,by decide,by decide⟩)))).1)) ⟨by decide,by decide⟩ (wfPick (wfInts rfl rfl (by decide) (by intro r hr;simp only [rowsIn,List.nil_append,List.cons_append,List.mem_cons,List.not_mem_nil,or_false] at hr;rcases hr with rfl|rfl|rfl|rfl|rfl|rfl|rfl|rfl <;> exact ⟨_,rfl,by decide,by decide⟩)))).2 (fun x=>0≤x∧x≤8) ⟨by decide,by decide⟩ (by intro r hr;simp only [rowsIn,List.nil_append,List.cons_append,List.mem_cons,List.not_mem_nil,or_false] at hr;rcases hr with rfl|rfl|rfl|rfl|rfl|rfl|rfl|rfl <;> exact ⟨by decide,by decide⟩)).1,((q193 _ _ _ _ (by repeat (first|exact ok|exact ok1|exact ok2|refine byteI_ok ?_|refine (q212 _ _ _ ?_).1|refine (q213 _ _ _ ?_).1|refine (q218 _ _ _ ?_).1|refine (q144 _ _ _ ?_).1|refine (q259 _ _ _ ?_).1|refine (q193 _ _ _ _ ?_ ⟨by decide,by decide⟩ (wfPick (wfInts rfl rfl (by decide) (by intro r hr;simp only [rowsIn,List.nil_append,List.cons_append,List.mem_cons,List.not_mem_nil,or_false] at hr;rcases hr with rfl|rfl|rfl|rfl|rfl|rfl|rfl|rfl <;> exact ⟨_,rfl,by decide,by decide⟩)))).1)) ⟨by decide,by decide⟩ (wfPick (wfInts rfl rfl (by decide) (by intro r hr;simp only [rowsIn,List.nil_append,List.cons_append,List.mem_cons,List.not_mem_nil,or_false] at hr;rcases hr with rfl|rfl|rfl|rfl|rfl|rfl|rfl|rfl <;> exact ⟨_,rfl,by decide,by decide⟩)))).2 (fun x=>0≤x∧x≤8) ⟨by decide,by decide⟩ (by intro r hr;simp only [rowsIn,List.nil_append,List.cons_append,List.mem_cons,List.not_mem_nil,or_false] at hr;rcases hr with rfl|rfl|rfl|rfl|rfl|rfl|rfl|rfl <;> exact ⟨by decide,by decide⟩)).2,(by repeat (first|exact ok|exact ok1|exact ok2|refine byteI_ok ?_|refine (q212 _ _ _ ?_).1|refine (q213 _ _ _ ?_).1|refine (q218 _ _ _ ?_).1|refine (q144 _ _ _ ?_).1|refine (q259 _ _ _ ?_).1|refine (q193 _ _ _ _ ?_ ⟨by decide,by decide⟩ (wfPick (wfInts rfl rfl (by decide) (by intro r hr;simp only [rowsIn,List.nil_append,List.cons_append,List.mem_cons,List.not_mem_nil,or_false] at hr;rcases hr with rfl|rfl|rfl|rfl|rfl|rfl|rfl|rfl <;> exact ⟨_,rfl,by decide,by decide⟩)))).1)),LS.nil,by decide,((q193 _ _ _ _ (by repeat (first|exact ok|exact ok1|exact ok2|refine byteI_ok ?_|refine (q212 _ _ _ ?_).1|refine (q213 _ _ _ ?_).1|refine (q218 _ _ _ ?_).1|refine (q144 _ _ _ ?_).1|refine (q259 _ _ _ ?_).1|refine (q193 _ _ _ _ ?_ ⟨by decide,by decide⟩ (wfPick (wfInts rfl rfl (by decide) (by intro r hr;simp only [rowsIn,List.nil_append,List.cons_append,List.mem_cons,List.not_mem_nil,or_false] at hr;rcases hr with rfl|rfl|rfl|rfl|rfl|rfl|rfl|rfl <;> exact ⟨_,rfl,by decide,by decide⟩)))).1)) ⟨by decide,by decide⟩ (wfPick (wfInts rfl rfl (by decide) (by intro r hr;simp only [rowsIn,List.nil_append,List.cons_append,List.mem_cons,List.not_mem_nil,or_false] at hr;rcases hr with rfl|rfl|rfl|rfl|rfl|rfl|rfl|rfl <;> exact ⟨_,rfl,by decide,by decide⟩)))).2 (fun x=>0≤x∧x≤8) ⟨by decide,by decide⟩ (by intro r hr;simp only [rowsIn,List.nil_append,List.cons_append,List.mem_cons,List.not_mem_nil,or_false] at hr;rcases hr with rfl|rfl|rfl|rfl|rfl|rfl|rfl|rfl <;> exact ⟨by decide,by decide⟩)).1,rfl⟩
  rintro n s ⟨z,m,o,I,H,rfl,hm0,hm1,ok1,hL,h1,h2,h3⟩
  have hlen:=hL.len
  repeat' first
    | (refine And.intro ?_ ?_)
    | (intro h;simp only [reduceCtorEq] at h;done)
    | (intro h;rw [h])
    | (intro h)
  all_goals first
    | (show lowEdges _=true;kernel_rfl)|(show logOk _ _=true;kernel_rfl)|exact True.intro|exact Or.inr rfl|exact Or.inl rfl
    | exact ⟨_,rfl⟩
    | exact ⟨_,_,rfl⟩
    | (show Alive _ _;rfl)
    | (show List.length _=_;rfl)
    | exact ⟨_,_,_,_,(by repeat (first|exact ok|exact ok1|exact ok2|refine byteI_ok ?_|refine (q212 _ _ _ ?_).1|refine (q213 _ _ _ ?_).1|refine (q218 _ _ _ ?_).1|refine (q144 _ _ _ ?_).1|refine (q259 _ _ _ ?_).1|refine (q193 _ _ _ _ ?_ ⟨by decide,by decide⟩ (wfPick (wfInts rfl rfl (by decide) (by intro r hr;simp only [rowsIn,List.nil_append,List.cons_append,List.mem_cons,List.not_mem_nil,or_false] at hr;rcases hr with rfl|rfl|rfl|rfl|rfl|rfl|rfl|rfl <;> exact ⟨_,rfl,by decide,by decide⟩)))).1)),hl,rfl⟩
    | exact ⟨_,_,_,_,(by repeat (first|exact ok|exact ok1|exact ok2|refine byteI_ok ?_|refine (q212 _ _ _ ?_).1|refine (q213 _ _ _ ?_).1|refine (q218 _ _ _ ?_).1|refine (q144 _ _ _ ?_).1|refine (q259 _ _ _ ?_).1|refine (q193 _ _ _ _ ?_ ⟨by decide,by decide⟩ (wfPick (wfInts rfl rfl (by decide) (by intro r hr;simp only [rowsIn,List.nil_append,List.cons_append,List.mem_cons,List.not_mem_nil,or_false] at hr;rcases hr with rfl|rfl|rfl|rfl|rfl|rfl|rfl|rfl <;> exact ⟨_,rfl,by decide,by decide⟩)))).1)),⟨by decide,by decide⟩,rfl⟩
    | exact ⟨_,_,_,(by repeat (first|exact ok|exact ok1|exact ok2|refine byteI_ok ?_|refine (q212 _ _ _ ?_).1|refine (q213 _ _ _ ?_).1|refine (q218 _ _ _ ?_).1|refine (q144 _ _ _ ?_).1|refine (q259 _ _ _ ?_).1|refine (q193 _ _ _ _ ?_ ⟨by decide,by decide⟩ (wfPick (wfInts rfl rfl (by decide) (by intro r hr;simp only [rowsIn,List.nil_append,List.cons_append,List.mem_cons,List.not_mem_nil,or_false] at hr;rcases hr with rfl|rfl|rfl|rfl|rfl|rfl|rfl|rfl <;> exact ⟨_,rfl,by decide,by decide⟩)))).1)),rfl⟩
    | exact ⟨_,_,_,_,(by repeat (first|exact ok|exact ok1|exact ok2|refine byteI_ok ?_|refine (q212 _ _ _ ?_).1|refine (q213 _ _ _ ?_).1|refine (q218 _ _ _ ?_).1|refine (q144 _ _ _ ?_).1|refine (q259 _ _ _ ?_).1|refine (q193 _ _ _ _ ?_ ⟨by decide,by decide⟩ (wfPick (wfInts rfl rfl (by decide) (by intro r hr;simp only [rowsIn,List.nil_append,List.cons_append,List.mem_cons,List.not_mem_nil,or_false] at hr;rcases hr with rfl|rfl|rfl|rfl|rfl|rfl|rfl|rfl <;> exact ⟨_,rfl,by decide,by decide⟩)))).1)),rfl⟩
    | (show o.length+1≤maxLen;simp only [maxLen];omega)
    | (show (o.length+1) * 112≤140737488355328;omega)
    | (have hz:z < m:=of_decide_eq_true ‹decide (z < m)=true›
       have e:(z+1).toNat * 1702=z.toNat * 1702+1+1701:=by omega
       refine ⟨m.toNat - (z+1).toNat,by omega,z+1,m,_,_,_,congrArg (fun q=>(([.ptr 26 0 0,.val false [.i .i64 3],.ptr 4 1 0,.ptr 5 1 0,.val false [.i .i64 _],.val false [.i .i64 q]],[(0,[.val false [.sl false 5 rows],.val false [.i .i64 _],.val false [.i .i64 _]]),(1,[.val false [.i .i64 0],.val false [.i .i64 0],.val false [.i .i64 0],.val false [.s ByteArray.empty],.val false [.sl true 33 []],.val false [.sl true 9 []],.val false [.sl true 91 []]]),(1,[.val false [.i .i64 3],.val false [.i .i64 0],.val false [.i .i64 0],.val false [.s ByteArray.empty],.val false [.sl true 33 (_)],.val false [.sl true 9 ([])],.val false [.sl true 91 ([])]])]):Snap)) (wrap_i64_in (by omega) (by omega)),hm0,hm1,(q258d3 rows I H ok1 (wfN _ (by decide) (by decide))).1,?_,by omega,by omega,rfl⟩
       rw [e]
       exact hL.add rfl (by omega) ((q258d3 rows I H ok1 (wfN _ (by decide) (by decide))).2.wf (by decide)) (by rw [VL.w];exact (q258d3 rows I H ok1 (wfN _ (by decide) (by decide))).2.2.2.2.1))
    | refine ⟨(⟨_,_,_,_,_,_,_⟩,_,_),?_,rfl,rfl,True.intro⟩
    | skip
  all_goals first
    | exact ⟨ok1,(show inK .i64 3 from ⟨by decide,by decide⟩),zero_inK _,zero_inK _,(by have:=hL.1;show 0+o.length+wRows o+0+0+0+0≤15309;omega),hL.2,.nil _,.nil _⟩
    | skip
theorem any215:∃ g:List SV→VL × Int × Int,FOk Tryz.prog T 215 { pre:=fun a=>∃ rows i h0,CurOk rows i∧a=[curA 5 rows i h0],res:=fun a=>(fun (x:VL × Int × Int)=>x.1.own 33 9 91) (g a),bx:=true,upd:=fun a=>curU 5 a (g a).2.1 (g a).2.2 } ∧
    ∀ cs args,(fun a=>∃ rows i h0,CurOk rows i∧a=[curA 5 rows i h0]) (.tup [(true,cs)] :: args)→(∀ a ∈ args,WfSV T a)→(fun (a:List SV) (x:VL × Int × Int)=>CurOk (rowsOf a) x.2.1∧(fun x:VL=>VL.ok T 33 9 91 8 x) x.1) (.tup [(true,cs)] :: args) (g (.tup [(true,cs)] :: args)):=by
  obtain ⟨g212,k212,p212⟩:=any212
  have q212:∀ (rows:List (List D)) (i h0:Int),CurOk rows i→CurOk rows (g212 [curA 5 rows i h0]).2.1∧(fun (a:List SV) (x:Int)=>inK .i64 x) [curA 5 rows i h0] (g212 [curA 5 rows i h0]).1:=fun rows i h0 ok=>p212 _ _ ⟨rows,i,h0,ok,rfl⟩ (by intro a ha;cases ha)
  clear p212
  refine fokBA (α:=VL × Int × Int) (fun _ x=>x.1.own 33 9 91) (fun a x=>curU 5 a x.2.1 x.2.2) (post:=fun a x=>CurOk (rowsOf a) x.2.1∧(fun x:VL=>VL.ok T 33 9 91 8 x) x.1) (env:=envL [(126,(spBelow 5)),(212, { pre:=fun a=>∃ rows i h0,CurOk rows i∧a=[curA 5 rows i h0],res:=fun a=>(fun (x:Int × Int × Int)=>.val false [.i .i64 x.1]) (g212 a),bx:=true,upd:=fun a=>curU 5 a (g212 a).2.1 (g212 a).2.2 }),(177,spv177)]) (N:=23) tabT (envL_cons ok126 (envL_cons k212 (envL_cons okv177 envL_nil))) mixed Tryz.func215 rfl Tryz.call215 Tryz.ntmps215 ?_
  rintro cs args ⟨rows,i,h0,ok,he⟩ hwf
  obtain ⟨rfl,rfl⟩:cs=curC 5 rows i h0∧args=[]:=by simpa only [List.cons.injEq,SV.tup.injEq,Prod.mk.injEq,true_and,and_true] using he
  refine ⟨by simp,?_⟩
  clear he
  rw [Tryz.results215]
  repeat' first
    | (refine And.intro ?_ ?_)
    | (intro h;simp only [reduceCtorEq] at h;done)
    | (intro h;rw [h])
    | (intro h)
  all_goals first
    | (show lowEdges _=true;kernel_rfl)|(show logOk _ _=true;kernel_rfl)|exact True.intro|exact Or.inr rfl|exact Or.inl rfl
    | (show Alive _ _;rfl)
    | (show List.length _=_;rfl)
    | exact ⟨_,_,_,_,(by repeat (first|exact ok|exact ok1|exact ok2|refine byteI_ok ?_|refine (q212 _ _ _ ?_).1|refine (q213 _ _ _ ?_).1|refine (q218 _ _ _ ?_).1|refine (q144 _ _ _ ?_).1|refine (q259 _ _ _ ?_).1)),hl,rfl⟩
    | exact ⟨_,_,_,_,(by repeat (first|exact ok|exact ok1|exact ok2|refine byteI_ok ?_|refine (q212 _ _ _ ?_).1|refine (q213 _ _ _ ?_).1|refine (q218 _ _ _ ?_).1|refine (q144 _ _ _ ?_).1|refine (q259 _ _ _ ?_).1)),⟨by decide,by decide⟩,rfl⟩
    | exact ⟨_,_,_,(by repeat (first|exact ok|exact ok1|exact ok2|refine byteI_ok ?_|refine (q212 _ _ _ ?_).1|refine (q213 _ _ _ ?_).1|refine (q218 _ _ _ ?_).1|refine (q144 _ _ _ ?_).1|refine (q259 _ _ _ ?_).1)),rfl⟩
    | exact ⟨_,_,_,_,(by repeat (first|exact ok|exact ok1|exact ok2|refine byteI_ok ?_|refine (q212 _ _ _ ?_).1|refine (q213 _ _ _ ?_).1|refine (q218 _ _ _ ?_).1|refine (q144 _ _ _ ?_).1|refine (q259 _ _ _ ?_).1)),rfl⟩
    | refine ⟨(⟨_,_,_,_,_,_,_⟩,_,_),?_,rfl,rfl,True.intro⟩
    | skip
  refine awp_loop (Q:=_) [0,2,3,4,5] [23,2,3] (fun n s=>∃ (z m:Int) (o:List (List D)) (I H:Int),s=([.ptr 23 0 0,.ptr 2 1 0,.ptr 3 1 0,.val false [.i .i64 m],.val false [.i .i64 z]],[(0,[.val false [.sl false 5 rows],.val false [.i .i64 I],.val false [.i .i64 H]]),(1,[.val false [.i .i64 0],.val false [.i .i64 0],.val false [.i .i64 0],.val false [.s ByteArray.empty],.val false [.sl true 33 []],.val false [.sl true 9 []],.val false [.sl true 91 []]]),(1,[.val false [.i .i64 3],.val false [.i .i64 0],.val false [.i .i64 0],.val false [.s ByteArray.empty],.val false [.sl true 33 (o)],.val false [.sl true 9 ([])],.val false [.sl true 91 ([])]])])∧0≤m∧m≤8∧CurOk rows I∧LS T 33 (z.toNat * 1) o∧0≤z∧z≤m∧n=m.toNat - z.toNat) ?_ ?_
  · exact ⟨rfl,_,0,_,_,_,_,rfl,(show 0≤belowR rows i h0 9∧belowR rows i h0 9≤8 from ⟨(belowR_in (rows:=rows) (i:=i) (h:=h0) (n:=9) ⟨by decide,by decide⟩).1,by have:=(belowR_in (rows:=rows) (i:=i) (h:=h0) (n:=9) ⟨by decide,by decide⟩).2;omega⟩).1,(show 0≤belowR rows i h0 9∧belowR rows i h0 9≤8 from ⟨(belowR_in (rows:=rows) (i:=i) (h:=h0) (n:=9) ⟨by decide,by decide⟩).1,by have:=(belowR_in (rows:=rows) (i:=i) (h:=h0) (n:=9) ⟨by decide,by decide⟩).2;omega⟩).2,byteI_ok ok,LS.nil,by decide,(show 0≤belowR rows i h0 9∧belowR rows i h0 9≤8 from ⟨(belowR_in (rows:=rows) (i:=i) (h:=h0) (n:=9) ⟨by decide,by decide⟩).1,by have:=(belowR_in (rows:=rows) (i:=i) (h:=h0) (n:=9) ⟨by decide,by decide⟩).2;omega⟩).1,rfl⟩
  rintro n s ⟨z,m,o,I,H,rfl,hm0,hm1,ok1,hL,h1,h2,h3⟩
  have hlen:=hL.len
  repeat' first
    | (refine And.intro ?_ ?_)
    | (intro h;simp only [reduceCtorEq] at h;done)
    | (intro h;rw [h])
    | (intro h)
  all_goals first
    | (show lowEdges _=true;kernel_rfl)|(show logOk _ _=true;kernel_rfl)|exact True.intro|exact Or.inr rfl|exact Or.inl rfl
    | exact ⟨_,rfl⟩
    | exact ⟨_,_,rfl⟩
    | (show Alive _ _;rfl)
    | (show List.length _=_;rfl)
    | exact ⟨_,_,_,_,(by repeat (first|exact ok|exact ok1|exact ok2|refine byteI_ok ?_|refine (q212 _ _ _ ?_).1|refine (q213 _ _ _ ?_).1|refine (q218 _ _ _ ?_).1|refine (q144 _ _ _ ?_).1|refine (q259 _ _ _ ?_).1)),hl,rfl⟩
    | exact ⟨_,_,_,_,(by repeat (first|exact ok|exact ok1|exact ok2|refine byteI_ok ?_|refine (q212 _ _ _ ?_).1|refine (q213 _ _ _ ?_).1|refine (q218 _ _ _ ?_).1|refine (q144 _ _ _ ?_).1|refine (q259 _ _ _ ?_).1)),⟨by decide,by decide⟩,rfl⟩
    | exact ⟨_,_,_,(by repeat (first|exact ok|exact ok1|exact ok2|refine byteI_ok ?_|refine (q212 _ _ _ ?_).1|refine (q213 _ _ _ ?_).1|refine (q218 _ _ _ ?_).1|refine (q144 _ _ _ ?_).1|refine (q259 _ _ _ ?_).1)),rfl⟩
    | exact ⟨_,_,_,_,(by repeat (first|exact ok|exact ok1|exact ok2|refine byteI_ok ?_|refine (q212 _ _ _ ?_).1|refine (q213 _ _ _ ?_).1|refine (q218 _ _ _ ?_).1|refine (q144 _ _ _ ?_).1|refine (q259 _ _ _ ?_).1)),rfl⟩
    | (show o.length+1≤maxLen;simp only [maxLen];omega)
    | (show (o.length+1) * 112≤140737488355328;omega)
    | (have hz:z < m:=of_decide_eq_true ‹decide (z < m)=true›
       have e:(z+1).toNat * 1=z.toNat * 1+1+0:=by omega
       refine ⟨m.toNat - (z+1).toNat,by omega,z+1,m,_,_,_,congrArg (fun q=>(([.ptr 23 0 0,.ptr 2 1 0,.ptr 3 1 0,.val false [.i .i64 _],.val false [.i .i64 q]],[(0,[.val false [.sl false 5 rows],.val false [.i .i64 _],.val false [.i .i64 _]]),(1,[.val false [.i .i64 0],.val false [.i .i64 0],.val false [.i .i64 0],.val false [.s ByteArray.empty],.val false [.sl true 33 []],.val false [.sl true 9 []],.val false [.sl true 91 []]]),(1,[.val false [.i .i64 3],.val false [.i .i64 0],.val false [.i .i64 0],.val false [.s ByteArray.empty],.val false [.sl true 33 (_)],.val false [.sl true 9 ([])],.val false [.sl true 91 ([])]])]):Snap)) (wrap_i64_in (by omega) (by omega)),hm0,hm1,(q212 _ _ _ ok1).1,?_,by omega,by omega,rfl⟩
       rw [e]
       exact hL.add rfl (by omega) (VL.ok.wf (B:=0) (x:=⟨1,_,0,⟨#[]⟩,[],[],[]⟩) (VL.num_ok (q212 _ _ _ ok1).2) (by decide)) (Nat.le_refl _))
    | refine ⟨(⟨_,_,_,_,_,_,_⟩,_,_),?_,rfl,rfl,True.intro⟩
    | skip
  all_goals first
    | exact ⟨ok1,(show inK .i64 3 from ⟨by decide,by decide⟩),zero_inK _,zero_inK _,(by have:=hL.1;show 0+o.length+wRows o+0+0+0+0≤8;omega),hL.2,.nil _,.nil _⟩
    | skip
end Go.Proofs.YtppgalpldaibhaaGreatDoor.Ab
