/- Comparisons: printed by a program of this claim. -/
import Derived.Test.YtppgalpldaibhaaGreatDoorDTa
namespace Go.Proofs.YtppgalpldaibhaaGreatDoor.Ab
open Go.RowKit
set_option linter.unusedVariables false
set_option linter.unusedSimpArgs false
set_option maxRecDepth 100000
set_option maxHeartbeats 1000000
theorem ok122:FOk Tryz.prog T 122 (eqS 3):=by
  refine fok (env:=envL []) (N:=26) tabT envL_nil mixed Tryz.func122 rfl Tryz.call122 Tryz.ntmps122 ?_
  rintro args ⟨a,b,rfl⟩ hwf
  have wa:WfD T (.l 3) (.l a):=arg0 hwf (List.mem_singleton_self _)
  have wb:WfD T (.l 3) (.l b):=arg1 hwf (List.mem_singleton_self _)
  clear hwf
  have la:=wa.len
  refine ⟨by simp,?_⟩
  rw [Tryz.results122]
  repeat' first
    | (refine And.intro ?_ ?_)
    | (intro h)
  all_goals first
    | (show lowEdges _=true;kernel_rfl)|(show logOk _ _=true;kernel_rfl)|exact True.intro|exact rfl|exact Or.inr rfl|exact Or.inl rfl
    | exact res_no (ne_len ‹_›)
    | skip
  have hl:=eq_len ‹_›
  refine awp_loop (Q:=_) [0,1,5] [] (fun n s=>∃ i:Int,s=([argS 3 a,argS 3 b,.val false [.i .i64 i]],[])∧0≤i∧i≤a.length∧n=a.length - i.toNat∧a.take i.toNat=b.take i.toNat) ?_ ?_
  · exact ⟨rfl,a.length - 0,_,rfl,by omega,by omega,rfl,rfl⟩
  rintro n s ⟨i,rfl,h1,h2,h3,h4⟩
  repeat' first
    | (refine And.intro ?_ ?_)
    | (intro h)
  all_goals first
    | (show lowEdges _=true;kernel_rfl)|(show logOk _ _=true;kernel_rfl)|exact True.intro|exact rfl|exact Or.inr rfl|exact Or.inl rfl
    | omega
    | exact of_decide_eq_true ‹_›
    | exact hl ▸ of_decide_eq_true ‹decide (i < (a.length:Int))=true›
    | exact ⟨_,_,rfl⟩
    | exact res_yes (eq_of_takes hl h1 h2 ‹_› h4)
    | (have hi:i < (a.length:Int):=of_decide_eq_true ‹_›
       have wra:WfRow T [.i .i64] (a.getD i.toNat []):=wa.row rfl (by omega)
       have wrb:WfRow T [.i .i64] (b.getD i.toNat []):=wb.row rfl (by omega)
       first
         | exact ⟨_,_,wra,wrb,rfl⟩
         | exact ⟨_,_,wra,wrb,Nat.lt_of_lt_of_le (size_row (by omega)) (Nat.le_of_lt_succ hs),rfl⟩
         | (refine res_no ?_;rintro rfl;simp_all [eqDs,eqD,str_inj];done)
         | (refine ⟨a.length - (i+1).toNat,by omega,i+1,?_,by omega,by omega,rfl,takes_next h1 hi hl h4 (row_eq wra wrb ?_)⟩
            · exact congrArg (fun z=>([argS 3 a,argS 3 b,.val false [.i .i64 z]],[])) (wrap_next h1 hi la)
            · simp_all [eqDs,eqD,str_inj,csD,CV.d,rowC,ofD,argG,sub,List.zipIdx,List.range,List.range.loop]))
    | rfl
theorem ok178:FOk Tryz.prog T 178 (eqS 9):=by
  refine fok (env:=envL []) (N:=26) tabT envL_nil mixed Tryz.func178 rfl Tryz.call178 Tryz.ntmps178 ?_
  rintro args ⟨a,b,rfl⟩ hwf
  have wa:WfD T (.l 9) (.l a):=arg0 hwf (List.mem_singleton_self _)
  have wb:WfD T (.l 9) (.l b):=arg1 hwf (List.mem_singleton_self _)
  clear hwf
  have la:=wa.len
  refine ⟨by simp,?_⟩
  rw [Tryz.results178]
  repeat' first
    | (refine And.intro ?_ ?_)
    | (intro h)
  all_goals first
    | (show lowEdges _=true;kernel_rfl)|(show logOk _ _=true;kernel_rfl)|exact True.intro|exact rfl|exact Or.inr rfl|exact Or.inl rfl
    | exact res_no (ne_len ‹_›)
    | skip
  have hl:=eq_len ‹_›
  refine awp_loop (Q:=_) [0,1,5] [] (fun n s=>∃ i:Int,s=([argS 9 a,argS 9 b,.val false [.i .i64 i]],[])∧0≤i∧i≤a.length∧n=a.length - i.toNat∧a.take i.toNat=b.take i.toNat) ?_ ?_
  · exact ⟨rfl,a.length - 0,_,rfl,by omega,by omega,rfl,rfl⟩
  rintro n s ⟨i,rfl,h1,h2,h3,h4⟩
  repeat' first
    | (refine And.intro ?_ ?_)
    | (intro h)
  all_goals first
    | (show lowEdges _=true;kernel_rfl)|(show logOk _ _=true;kernel_rfl)|exact True.intro|exact rfl|exact Or.inr rfl|exact Or.inl rfl
    | omega
    | exact of_decide_eq_true ‹_›
    | exact hl ▸ of_decide_eq_true ‹decide (i < (a.length:Int))=true›
    | exact ⟨_,_,rfl⟩
    | exact res_yes (eq_of_takes hl h1 h2 ‹_› h4)
    | (have hi:i < (a.length:Int):=of_decide_eq_true ‹_›
       have wra:WfRow T [.s] (a.getD i.toNat []):=wa.row rfl (by omega)
       have wrb:WfRow T [.s] (b.getD i.toNat []):=wb.row rfl (by omega)
       first
         | exact ⟨_,_,wra,wrb,rfl⟩
         | exact ⟨_,_,wra,wrb,Nat.lt_of_lt_of_le (size_row (by omega)) (Nat.le_of_lt_succ hs),rfl⟩
         | (refine res_no ?_;rintro rfl;simp_all [eqDs,eqD,str_inj];done)
         | (refine ⟨a.length - (i+1).toNat,by omega,i+1,?_,by omega,by omega,rfl,takes_next h1 hi hl h4 (row_eq wra wrb ?_)⟩
            · exact congrArg (fun z=>([argS 9 a,argS 9 b,.val false [.i .i64 z]],[])) (wrap_next h1 hi la)
            · simp_all [eqDs,eqD,str_inj,csD,CV.d,rowC,ofD,argG,sub,List.zipIdx,List.range,List.range.loop]))
    | rfl
theorem ok179:FOk Tryz.prog T 179 (eqS 153):=by
  refine fok (env:=envL []) (N:=26) tabT envL_nil mixed Tryz.func179 rfl Tryz.call179 Tryz.ntmps179 ?_
  rintro args ⟨a,b,rfl⟩ hwf
  have wa:WfD T (.l 153) (.l a):=arg0 hwf (List.mem_singleton_self _)
  have wb:WfD T (.l 153) (.l b):=arg1 hwf (List.mem_singleton_self _)
  clear hwf
  have la:=wa.len
  refine ⟨by simp,?_⟩
  rw [Tryz.results179]
  repeat' first
    | (refine And.intro ?_ ?_)
    | (intro h)
  all_goals first
    | (show lowEdges _=true;kernel_rfl)|(show logOk _ _=true;kernel_rfl)|exact True.intro|exact rfl|exact Or.inr rfl|exact Or.inl rfl
    | exact res_no (ne_len ‹_›)
    | skip
  have hl:=eq_len ‹_›
  refine awp_loop (Q:=_) [0,1,5] [] (fun n s=>∃ i:Int,s=([argS 153 a,argS 153 b,.val false [.i .i64 i]],[])∧0≤i∧i≤a.length∧n=a.length - i.toNat∧a.take i.toNat=b.take i.toNat) ?_ ?_
  · exact ⟨rfl,a.length - 0,_,rfl,by omega,by omega,rfl,rfl⟩
  rintro n s ⟨i,rfl,h1,h2,h3,h4⟩
  repeat' first
    | (refine And.intro ?_ ?_)
    | (intro h)
  all_goals first
    | (show lowEdges _=true;kernel_rfl)|(show logOk _ _=true;kernel_rfl)|exact True.intro|exact rfl|exact Or.inr rfl|exact Or.inl rfl
    | omega
    | exact of_decide_eq_true ‹_›
    | exact hl ▸ of_decide_eq_true ‹decide (i < (a.length:Int))=true›
    | exact ⟨_,_,rfl⟩
    | exact res_yes (eq_of_takes hl h1 h2 ‹_› h4)
    | (have hi:i < (a.length:Int):=of_decide_eq_true ‹_›
       have wra:WfRow T [.i .i64,.i .i64] (a.getD i.toNat []):=wa.row rfl (by omega)
       have wrb:WfRow T [.i .i64,.i .i64] (b.getD i.toNat []):=wb.row rfl (by omega)
       first
         | exact ⟨_,_,wra,wrb,rfl⟩
         | exact ⟨_,_,wra,wrb,Nat.lt_of_lt_of_le (size_row (by omega)) (Nat.le_of_lt_succ hs),rfl⟩
         | (refine res_no ?_;rintro rfl;simp_all [eqDs,eqD,str_inj];done)
         | (refine ⟨a.length - (i+1).toNat,by omega,i+1,?_,by omega,by omega,rfl,takes_next h1 hi hl h4 (row_eq wra wrb ?_)⟩
            · exact congrArg (fun z=>([argS 153 a,argS 153 b,.val false [.i .i64 z]],[])) (wrap_next h1 hi la)
            · simp_all [eqDs,eqD,str_inj,csD,CV.d,rowC,ofD,argG,sub,List.zipIdx,List.range,List.range.loop]))
    | rfl
theorem step89 (n:Nat) (hn:FOk Tryz.prog T 89 (eqFn [.i .i64,.i .i64,.i .i64,.s,.l 33,.l 9,.l 91] n)):FOk Tryz.prog T 89 (eqFn [.i .i64,.i .i64,.i .i64,.s,.l 33,.l 9,.l 91] (n+1)):=by
  refine fok (env:=envL [(178,(eqS 9)),(89,(eqFn [.i .i64,.i .i64,.i .i64,.s,.l 33,.l 9,.l 91] n)),(122,(eqS 3)),(179,(eqS 153))]) (N:=121) tabT (envL_cons ok178 (envL_cons hn (envL_cons ok122 (envL_cons ok179 envL_nil)))) mixed Tryz.func89 rfl Tryz.call89 Tryz.ntmps89 ?_
  rintro args ⟨a,b,wa,wb,hs,rfl⟩ hwf
  refine ⟨by simp,?_⟩
  clear hwf
  have wA0:WfD T (.l 33) (.l (a.getD 4 default).rows):=wa.rows (j:=4) rfl
  have wB0:WfD T (.l 33) (.l (b.getD 4 default).rows):=wb.rows (j:=4) rfl
  have lA0:=wA0.len
  have wA1:WfD T (.l 91) (.l (a.getD 6 default).rows):=wa.rows (j:=6) rfl
  have wB1:WfD T (.l 91) (.l (b.getD 6 default).rows):=wb.rows (j:=6) rfl
  have lA1:=wA1.len
  rw [Tryz.results89]
  repeat' first
    | (refine And.intro ?_ ?_)
    | (intro h;cases h)
    | (intro h;rw [h])
    | (intro h)
  all_goals first
    | (show lowEdges _=true;kernel_rfl)|(show logOk _ _=true;kernel_rfl)|exact True.intro|exact rfl|exact Or.inr rfl|exact Or.inl rfl
    | exact ⟨_,_,rfl⟩
    | exact ⟨_,_,wa,wb,rfl⟩
    | exact ⟨sub a 0 1,sub b 0 1,wa.sub 0 1 (by decide),wb.sub 0 1 (by decide),rfl⟩
    | exact ⟨sub a 1 1,sub b 1 1,wa.sub 1 1 (by decide),wb.sub 1 1 (by decide),rfl⟩
    | exact ⟨sub a 2 1,sub b 2 1,wa.sub 2 1 (by decide),wb.sub 2 1 (by decide),rfl⟩
    | exact ⟨sub a 3 1,sub b 3 1,wa.sub 3 1 (by decide),wb.sub 3 1 (by decide),rfl⟩
    | exact ⟨sub a 4 1,sub b 4 1,wa.sub 4 1 (by decide),wb.sub 4 1 (by decide),rfl⟩
    | exact ⟨sub a 5 1,sub b 5 1,wa.sub 5 1 (by decide),wb.sub 5 1 (by decide),rfl⟩
    | exact ⟨sub a 6 1,sub b 6 1,wa.sub 6 1 (by decide),wb.sub 6 1 (by decide),rfl⟩
    | (exact res_no (fun he=>by have e:=row_eq wa wb he;subst e;simp_all [eqDs,eqD,str_inj]))
    | (exact res_no (fun he=>by have e:=row_eq wa wb he;subst e;simp_all [eqDs,eqD,str_inj]))
    | (refine res_yes ?_;simp_all [eqDs,eqD,str_inj,csD,CV.d,rowC,ofD,argG,sub,List.zipIdx,List.range,List.range.loop];done)
    | (refine res_iff ?_;simp_all [eqDs,eqD,str_inj,csD,CV.d,rowC,ofD,argG,sub,List.zipIdx,List.range,List.range.loop];done)
    | skip
  have hl0:(a.getD 4 default).rows.length=(b.getD 4 default).rows.length:=eq_len ‹(((a.getD 4 default).rows.length:Int) != ((b.getD 4 default).rows.length:Int))=false›
  refine awp_loop (Q:=_) [2,3,4,7] [3,4] (fun n s=>∃ i:Int,s=([.val false [.b true],.ptr 3 1 0,.ptr 4 1 0,.val false [.i .i64 i]],[(1,(rowC [.i .i64,.i .i64,.i .i64,.s,.l 33,.l 9,.l 91] a).map fun c=>.val false [c]),(1,(rowC [.i .i64,.i .i64,.i .i64,.s,.l 33,.l 9,.l 91] b).map fun c=>.val false [c])])∧0≤i∧i≤(a.getD 4 default).rows.length∧n=(a.getD 4 default).rows.length - i.toNat∧(a.getD 4 default).rows.take i.toNat=(b.getD 4 default).rows.take i.toNat) ?_ ?_
  · exact ⟨rfl,(a.getD 4 default).rows.length - 0,_,rfl,by omega,by omega,rfl,rfl⟩
  rintro n0 s ⟨i0,rfl,h10,h20,h30,h40⟩
  repeat' first
    | (refine And.intro ?_ ?_)
    | (intro h;cases h)
    | (intro h;rw [h])
    | (intro h)
  all_goals first
    | (show lowEdges _=true;kernel_rfl)|(show logOk _ _=true;kernel_rfl)|exact True.intro|exact rfl|exact Or.inr rfl|exact Or.inl rfl
    | omega
    | exact of_decide_eq_true ‹_›
    | exact hl0 ▸ of_decide_eq_true ‹decide (i0 < ((a.getD 4 default).rows.length:Int))=true›
    | exact ⟨_,_,rfl⟩
    | exact ⟨_,_,wa,wb,rfl⟩
    | exact ⟨sub a 0 1,sub b 0 1,wa.sub 0 1 (by decide),wb.sub 0 1 (by decide),rfl⟩
    | exact ⟨sub a 1 1,sub b 1 1,wa.sub 1 1 (by decide),wb.sub 1 1 (by decide),rfl⟩
    | exact ⟨sub a 2 1,sub b 2 1,wa.sub 2 1 (by decide),wb.sub 2 1 (by decide),rfl⟩
    | exact ⟨sub a 3 1,sub b 3 1,wa.sub 3 1 (by decide),wb.sub 3 1 (by decide),rfl⟩
    | exact ⟨sub a 4 1,sub b 4 1,wa.sub 4 1 (by decide),wb.sub 4 1 (by decide),rfl⟩
    | exact ⟨sub a 5 1,sub b 5 1,wa.sub 5 1 (by decide),wb.sub 5 1 (by decide),rfl⟩
    | exact ⟨sub a 6 1,sub b 6 1,wa.sub 6 1 (by decide),wb.sub 6 1 (by decide),rfl⟩
    | (have hi:i0 < ((a.getD 4 default).rows.length:Int):=of_decide_eq_true ‹decide (i0 < ((a.getD 4 default).rows.length:Int))=true›
       have wra0:WfRow T [.i .i64,.i .i64,.i .i64,.s,.l 33,.l 9,.l 91] ((a.getD 4 default).rows.getD i0.toNat []):=wA0.row rfl (by omega)
       have wrb0:WfRow T [.i .i64,.i .i64,.i .i64,.s,.l 33,.l 9,.l 91] ((b.getD 4 default).rows.getD i0.toNat []):=wB0.row rfl (by omega)
       first
         | exact ⟨_,_,wra0,wrb0,rfl⟩
         | exact ⟨_,_,wra0,wrb0,Nat.lt_of_lt_of_le (Nat.lt_trans (size_row (by omega)) (size_cell (by rw [wa.1];decide))) (Nat.le_of_lt_succ hs),rfl⟩
         | (exact res_no (fun he=>by have e:=row_eq wa wb he;subst e;simp_all [eqDs,eqD,str_inj]))
         | (refine ⟨(a.getD 4 default).rows.length - (i0+1).toNat,by omega,i0+1,?_,by omega,by omega,rfl,takes_next h10 hi hl0 h40 (row_eq wra0 wrb0 ?_)⟩
            · exact congrArg (fun z:Int=>(([.val false [.b true],.ptr 3 1 0,.ptr 4 1 0,.val false [.i .i64 z]],[(1,(rowC [.i .i64,.i .i64,.i .i64,.s,.l 33,.l 9,.l 91] a).map fun c=>.val false [c]),(1,(rowC [.i .i64,.i .i64,.i .i64,.s,.l 33,.l 9,.l 91] b).map fun c=>.val false [c])]):Snap)) (wrap_next h10 hi lA0)
            · simp_all [eqDs,eqD,str_inj,csD,CV.d,rowC,ofD,argG,sub,List.zipIdx,List.range,List.range.loop]))
    | (have hA0:(a.getD 4 default).rows=(b.getD 4 default).rows:=eq_of_takes hl0 h10 h20 ‹_› h40
       first
         | (refine res_yes ?_;simp_all [eqDs,eqD,str_inj,csD,CV.d,rowC,ofD,argG,sub,List.zipIdx,List.range,List.range.loop];done)
         | (refine res_iff ?_;simp_all [eqDs,eqD,str_inj,csD,CV.d,rowC,ofD,argG,sub,List.zipIdx,List.range,List.range.loop];done)
         | (exact res_no (fun he=>by have e:=row_eq wa wb he;subst e;simp_all [eqDs,eqD,str_inj])))
    | skip
  have hA0:(a.getD 4 default).rows=(b.getD 4 default).rows:=eq_of_takes hl0 h10 h20 ‹decide (i0 < ((a.getD 4 default).rows.length:Int))=false› h40
  have hl1:(a.getD 6 default).rows.length=(b.getD 6 default).rows.length:=eq_len ‹(((a.getD 6 default).rows.length:Int) != ((b.getD 6 default).rows.length:Int))=false›
  refine awp_loop (Q:=_) [2,3,4,8] [3,4] (fun n s=>∃ i:Int,s=([.val false [.b true],.ptr 3 1 0,.ptr 4 1 0,.val false [.i .i64 i]],[(1,(rowC [.i .i64,.i .i64,.i .i64,.s,.l 33,.l 9,.l 91] a).map fun c=>.val false [c]),(1,(rowC [.i .i64,.i .i64,.i .i64,.s,.l 33,.l 9,.l 91] b).map fun c=>.val false [c])])∧0≤i∧i≤(a.getD 6 default).rows.length∧n=(a.getD 6 default).rows.length - i.toNat∧(a.getD 6 default).rows.take i.toNat=(b.getD 6 default).rows.take i.toNat) ?_ ?_
  · exact ⟨rfl,(a.getD 6 default).rows.length - 0,_,rfl,by omega,by omega,rfl,rfl⟩
  rintro n1 s ⟨i1,rfl,h11,h21,h31,h41⟩
  repeat' first
    | (refine And.intro ?_ ?_)
    | (intro h;cases h)
    | (intro h;rw [h])
    | (intro h)
  all_goals first
    | (show lowEdges _=true;kernel_rfl)|(show logOk _ _=true;kernel_rfl)|exact True.intro|exact rfl|exact Or.inr rfl|exact Or.inl rfl
    | omega
    | exact of_decide_eq_true ‹_›
    | exact hl1 ▸ of_decide_eq_true ‹decide (i1 < ((a.getD 6 default).rows.length:Int))=true›
    | exact ⟨_,_,rfl⟩
    | exact ⟨_,_,wa,wb,rfl⟩
    | exact ⟨sub a 0 1,sub b 0 1,wa.sub 0 1 (by decide),wb.sub 0 1 (by decide),rfl⟩
    | exact ⟨sub a 1 1,sub b 1 1,wa.sub 1 1 (by decide),wb.sub 1 1 (by decide),rfl⟩
    | exact ⟨sub a 2 1,sub b 2 1,wa.sub 2 1 (by decide),wb.sub 2 1 (by decide),rfl⟩
    | exact ⟨sub a 3 1,sub b 3 1,wa.sub 3 1 (by decide),wb.sub 3 1 (by decide),rfl⟩
    | exact ⟨sub a 4 1,sub b 4 1,wa.sub 4 1 (by decide),wb.sub 4 1 (by decide),rfl⟩
    | exact ⟨sub a 5 1,sub b 5 1,wa.sub 5 1 (by decide),wb.sub 5 1 (by decide),rfl⟩
    | exact ⟨sub a 6 1,sub b 6 1,wa.sub 6 1 (by decide),wb.sub 6 1 (by decide),rfl⟩
    | (have hi:i1 < ((a.getD 6 default).rows.length:Int):=of_decide_eq_true ‹decide (i1 < ((a.getD 6 default).rows.length:Int))=true›
       have wra1:WfRow T [.l 3,.l 153] ((a.getD 6 default).rows.getD i1.toNat []):=wA1.row rfl (by omega)
       have wrb1:WfRow T [.l 3,.l 153] ((b.getD 6 default).rows.getD i1.toNat []):=wB1.row rfl (by omega)
       first
         | exact ⟨_,_,wra1,wrb1,rfl⟩
         | exact ⟨_,_,wra1,wrb1,Nat.lt_of_lt_of_le (Nat.lt_trans (size_row (by omega)) (size_cell (by rw [wa.1];decide))) (Nat.le_of_lt_succ hs),rfl⟩
         | (exact res_no (fun he=>by have e:=row_eq wa wb he;subst e;simp_all [eqDs,eqD,str_inj]))
         | (refine ⟨(a.getD 6 default).rows.length - (i1+1).toNat,by omega,i1+1,?_,by omega,by omega,rfl,takes_next h11 hi hl1 h41 (row_eq wra1 wrb1 ?_)⟩
            · exact congrArg (fun z:Int=>(([.val false [.b true],.ptr 3 1 0,.ptr 4 1 0,.val false [.i .i64 z]],[(1,(rowC [.i .i64,.i .i64,.i .i64,.s,.l 33,.l 9,.l 91] a).map fun c=>.val false [c]),(1,(rowC [.i .i64,.i .i64,.i .i64,.s,.l 33,.l 9,.l 91] b).map fun c=>.val false [c])]):Snap)) (wrap_next h11 hi lA1)
            · simp_all [eqDs,eqD,str_inj,csD,CV.d,rowC,ofD,argG,sub,List.zipIdx,List.range,List.range.loop]))
    | (have hA1:(a.getD 6 default).rows=(b.getD 6 default).rows:=eq_of_takes hl1 h11 h21 ‹_› h41
       first
         | (refine res_yes ?_;simp_all [eqDs,eqD,str_inj,csD,CV.d,rowC,ofD,argG,sub,List.zipIdx,List.range,List.range.loop];done)
         | (refine res_iff ?_;simp_all [eqDs,eqD,str_inj,csD,CV.d,rowC,ofD,argG,sub,List.zipIdx,List.range,List.range.loop];done)
         | (exact res_no (fun he=>by have e:=row_eq wa wb he;subst e;simp_all [eqDs,eqD,str_inj])))
theorem zero89:FOk Tryz.prog T 89 (eqFn [.i .i64,.i .i64,.i .i64,.s,.l 33,.l 9,.l 91] 0):=by
  refine fok (env:=envL []) (N:=121) tabT envL_nil mixed Tryz.func89 rfl Tryz.call89 Tryz.ntmps89 ?_
  rintro args ⟨a,b,wa,wb,hs,rfl⟩ _
  exact absurd hs (Nat.not_lt_zero _)
theorem all89 (n:Nat):FOk Tryz.prog T 89 (eqFn [.i .i64,.i .i64,.i .i64,.s,.l 33,.l 9,.l 91] n):=by
  induction n with
  | zero=>exact zero89
  | succ n ih=>exact step89 n ih
theorem ok89:FOk Tryz.prog T 89 (eqF [.i .i64,.i .i64,.i .i64,.s,.l 33,.l 9,.l 91]):=FOk.lift (s:=fun n=>eqFn [.i .i64,.i .i64,.i .i64,.s,.l 33,.l 9,.l 91] n) all89 (fun args ⟨a,b,wa,wb,h⟩=>⟨SizeOf.sizeOf a+1,a,b,wa,wb,Nat.lt_succ_self _,h⟩) (fun n=>rfl)
theorem ok28:FOk Tryz.prog T 28 (eqG [.i .i64,.i .i64,.i .i64,.s,.l 33,.l 9,.l 91]):=by
  refine fok (env:=envL [(89,(eqF [.i .i64,.i .i64,.i .i64,.s,.l 33,.l 9,.l 91]))]) (N:=8) tabT (envL_cons ok89 envL_nil) mixed Tryz.func28 rfl Tryz.call28 Tryz.ntmps28 ?_
  rintro args ⟨a,b,wa,wb,rfl⟩ hwf
  refine ⟨by simp,?_⟩
  clear hwf
  rw [Tryz.results28]
  repeat' first
    | (refine And.intro ?_ ?_)
    | (intro h;cases h)
    | (intro h;rw [h])
    | (intro h)
  all_goals first
    | (show lowEdges _=true;kernel_rfl)|(show logOk _ _=true;kernel_rfl)|exact True.intro|exact rfl|exact Or.inr rfl|exact Or.inl rfl
    | exact ⟨_,_,rfl⟩
    | exact ⟨_,_,wa,wb,rfl⟩
    | exact ⟨sub a 0 1,sub b 0 1,wa.sub 0 1 (by decide),wb.sub 0 1 (by decide),rfl⟩
    | exact ⟨sub a 1 1,sub b 1 1,wa.sub 1 1 (by decide),wb.sub 1 1 (by decide),rfl⟩
    | exact ⟨sub a 2 1,sub b 2 1,wa.sub 2 1 (by decide),wb.sub 2 1 (by decide),rfl⟩
    | exact ⟨sub a 3 1,sub b 3 1,wa.sub 3 1 (by decide),wb.sub 3 1 (by decide),rfl⟩
    | exact ⟨sub a 4 1,sub b 4 1,wa.sub 4 1 (by decide),wb.sub 4 1 (by decide),rfl⟩
    | exact ⟨sub a 5 1,sub b 5 1,wa.sub 5 1 (by decide),wb.sub 5 1 (by decide),rfl⟩
    | exact ⟨sub a 6 1,sub b 6 1,wa.sub 6 1 (by decide),wb.sub 6 1 (by decide),rfl⟩
    | (exact res_no (fun he=>by have e:=row_eq wa wb he;subst e;simp_all [eqDs,eqD,str_inj]))
    | (exact res_no (fun he=>by have e:=row_eq wa wb he;subst e;simp_all [eqDs,eqD,str_inj]))
    | (refine res_yes ?_;simp_all [eqDs,eqD,str_inj,csD,CV.d,rowC,ofD,argG,sub,List.zipIdx,List.range,List.range.loop];done)
    | (refine res_iff ?_;simp_all [eqDs,eqD,str_inj,csD,CV.d,rowC,ofD,argG,sub,List.zipIdx,List.range,List.range.loop];done)
    | skip
end Go.Proofs.YtppgalpldaibhaaGreatDoor.Ab
