/- Comparisons: printed by a program of this -/
import Derived.Test.YtkpnfbdoaljkpaaGreatDoorDTa
namespace Go.Proofs.YtkpnfbdoaljkpaaGreatDoor.Ab
open Go.RowKit
set_option linter.unusedVariables false
set_option linter.unusedSimpArgs false
set_option maxRecDepth 100000
set_option maxHeartbeats 1000000
theorem ok56:FOk Tryz.prog T 56 (eqS 9):=by
  refine fok (env:=envL []) (N:=26) tabT envL_nil mixed Tryz.func56 rfl Tryz.call56 Tryz.ntmps56 ?_
  rintro args ⟨a,b,rfl⟩ hwf
  have wa:WfD T (.l 9) (.l a):=arg0 hwf (List.mem_singleton_self _)
  have wb:WfD T (.l 9) (.l b):=arg1 hwf (List.mem_singleton_self _)
  clear hwf
  have la:=wa.len
  refine ⟨by simp,?_⟩
  rw [Tryz.results56]
  repeat' first
    | (refine And.intro ?_ ?_)
    | (intro h)
  all_goals first
    | (show lowEdges _=true;kernel_rfl)|(show logOk _ _=true;kernel_rfl)|exact True.intro|exact rfl|exact Or.inr rfl|exact Or.inl rfl
    | exact res_no (ne_len ‹_›)
    | skip
  have hl:=eq_len ‹_›
  refine awp_loop (Q:=_) [0,1,5] [] (fun n s=>∃ i:Int,s=([argS 9 a,argS 9 b,.val false [.i .i64 i]],[])∧0≤i∧i≤a.length∧n=a.length - i.toNat∧a.take i.toNat=b.take i.toNat) ?_ ?_
  · exact ⟨rfl,a.length - 0,_,rfl,by omega,by omega,rfl,rfl⟩
  rintro n s ⟨i,rfl,h1,h2,h3,h4⟩
  repeat' first
    | (refine And.intro ?_ ?_)
    | (intro h)
  all_goals first
    | (show lowEdges _=true;kernel_rfl)|(show logOk _ _=true;kernel_rfl)|exact True.intro|exact rfl|exact Or.inr rfl|exact Or.inl rfl
    | omega
    | exact of_decide_eq_true ‹_›
    | exact hl ▸ of_decide_eq_true ‹decide (i < (a.length:Int))=true›
    | exact ⟨_,_,rfl⟩
    | exact res_yes (eq_of_takes hl h1 h2 ‹_› h4)
    | (have hi:i < (a.length:Int):=of_decide_eq_true ‹_›
       have wra:WfRow T [.s] (a.getD i.toNat []):=wa.row rfl (by omega)
       have wrb:WfRow T [.s] (b.getD i.toNat []):=wb.row rfl (by omega)
       first
         | exact ⟨_,_,wra,wrb,rfl⟩
         | exact ⟨_,_,wra,wrb,Nat.lt_of_lt_of_le (size_row (by omega)) (Nat.le_of_lt_succ hs),rfl⟩
         | (refine res_no ?_;rintro rfl;simp_all [eqDs,eqD,str_inj];done)
         | (refine ⟨a.length - (i+1).toNat,by omega,i+1,?_,by omega,by omega,rfl,takes_next h1 hi hl h4 (row_eq wra wrb ?_)⟩
            · exact congrArg (fun z=>([argS 9 a,argS 9 b,.val false [.i .i64 z]],[])) (wrap_next h1 hi la)
            · simp_all [eqDs,eqD,str_inj,csD,CV.d,rowC,ofD,argG,sub,List.zipIdx,List.range,List.range.loop]))
    | rfl
theorem ok72:FOk Tryz.prog T 72 (eqS 3):=by
  refine fok (env:=envL []) (N:=26) tabT envL_nil mixed Tryz.func72 rfl Tryz.call72 Tryz.ntmps72 ?_
  rintro args ⟨a,b,rfl⟩ hwf
  have wa:WfD T (.l 3) (.l a):=arg0 hwf (List.mem_singleton_self _)
  have wb:WfD T (.l 3) (.l b):=arg1 hwf (List.mem_singleton_self _)
  clear hwf
  have la:=wa.len
  refine ⟨by simp,?_⟩
  rw [Tryz.results72]
  repeat' first
    | (refine And.intro ?_ ?_)
    | (intro h)
  all_goals first
    | (show lowEdges _=true;kernel_rfl)|(show logOk _ _=true;kernel_rfl)|exact True.intro|exact rfl|exact Or.inr rfl|exact Or.inl rfl
    | exact res_no (ne_len ‹_›)
    | skip
  have hl:=eq_len ‹_›
  refine awp_loop (Q:=_) [0,1,5] [] (fun n s=>∃ i:Int,s=([argS 3 a,argS 3 b,.val false [.i .i64 i]],[])∧0≤i∧i≤a.length∧n=a.length - i.toNat∧a.take i.toNat=b.take i.toNat) ?_ ?_
  · exact ⟨rfl,a.length - 0,_,rfl,by omega,by omega,rfl,rfl⟩
  rintro n s ⟨i,rfl,h1,h2,h3,h4⟩
  repeat' first
    | (refine And.intro ?_ ?_)
    | (intro h)
  all_goals first
    | (show lowEdges _=true;kernel_rfl)|(show logOk _ _=true;kernel_rfl)|exact True.intro|exact rfl|exact Or.inr rfl|exact Or.inl rfl
    | omega
    | exact of_decide_eq_true ‹_›
    | exact hl ▸ of_decide_eq_true ‹decide (i < (a.length:Int))=true›
    | exact ⟨_,_,rfl⟩
    | exact res_yes (eq_of_takes hl h1 h2 ‹_› h4)
    | (have hi:i < (a.length:Int):=of_decide_eq_true ‹_›
       have wra:WfRow T [.i .i64] (a.getD i.toNat []):=wa.row rfl (by omega)
       have wrb:WfRow T [.i .i64] (b.getD i.toNat []):=wb.row rfl (by omega)
       first
         | exact ⟨_,_,wra,wrb,rfl⟩
         | exact ⟨_,_,wra,wrb,Nat.lt_of_lt_of_le (size_row (by omega)) (Nat.le_of_lt_succ hs),rfl⟩
         | (refine res_no ?_;rintro rfl;simp_all [eqDs,eqD,str_inj];done)
         | (refine ⟨a.length - (i+1).toNat,by omega,i+1,?_,by omega,by omega,rfl,takes_next h1 hi hl h4 (row_eq wra wrb ?_)⟩
            · exact congrArg (fun z=>([argS 3 a,argS 3 b,.val false [.i .i64 z]],[])) (wrap_next h1 hi la)
            · simp_all [eqDs,eqD,str_inj,csD,CV.d,rowC,ofD,argG,sub,List.zipIdx,List.range,List.range.loop]))
    | rfl
theorem ok193:FOk Tryz.prog T 193 (eqG [.i .i64,.i .i64]):=by
  refine fok (env:=envL []) (N:=15) tabT envL_nil mixed Tryz.func193 rfl Tryz.call193 Tryz.ntmps193 ?_
  rintro args ⟨a,b,wa,wb,rfl⟩ _
  refine ⟨by simp,?_⟩
  rw [Tryz.results193]
  repeat' first
    | (refine And.intro ?_ ?_)
    | (intro h)
  all_goals first
    | (show lowEdges _=true;kernel_rfl)|(show logOk _ _=true;kernel_rfl)|exact True.intro|exact rfl|exact Or.inr rfl|exact Or.inl rfl
    | exact ⟨_,_,rfl⟩
    | exact ⟨_,_,Nat.lt_of_lt_of_le (size_cell (by rw [wa.1];decide)) (Nat.le_of_lt_succ hs),rfl⟩
    | exact ⟨sub a 0 1,sub b 0 1,wa.sub 0 1 (by decide),wb.sub 0 1 (by decide),rfl⟩|exact ⟨sub a 1 1,sub b 1 1,wa.sub 1 1 (by decide),wb.sub 1 1 (by decide),rfl⟩
    | (exact res_no (fun he=>by have e:=row_eq wa wb he;subst e;simp_all))
    | (refine res_yes ?_;simp_all [eqDs,eqD,str_inj,csD,CV.d,rowC,ofD,argG,sub,List.zipIdx,List.range,List.range.loop];done)
theorem ok164:FOk Tryz.prog T 164 (eqS 167):=by
  refine fok (env:=envL [(193,(eqG [.i .i64,.i .i64]))]) (N:=27) tabT (envL_cons ok193 envL_nil) mixed Tryz.func164 rfl Tryz.call164 Tryz.ntmps164 ?_
  rintro args ⟨a,b,rfl⟩ hwf
  have wa:WfD T (.l 167) (.l a):=arg0 hwf (List.mem_singleton_self _)
  have wb:WfD T (.l 167) (.l b):=arg1 hwf (List.mem_singleton_self _)
  clear hwf
  have la:=wa.len
  refine ⟨by simp,?_⟩
  rw [Tryz.results164]
  repeat' first
    | (refine And.intro ?_ ?_)
    | (intro h)
  all_goals first
    | (show lowEdges _=true;kernel_rfl)|(show logOk _ _=true;kernel_rfl)|exact True.intro|exact rfl|exact Or.inr rfl|exact Or.inl rfl
    | exact res_no (ne_len ‹_›)
    | skip
  have hl:=eq_len ‹_›
  refine awp_loop (Q:=_) [0,1,5] [] (fun n s=>∃ i:Int,s=([argS 167 a,argS 167 b,.val false [.i .i64 i]],[])∧0≤i∧i≤a.length∧n=a.length - i.toNat∧a.take i.toNat=b.take i.toNat) ?_ ?_
  · exact ⟨rfl,a.length - 0,_,rfl,by omega,by omega,rfl,rfl⟩
  rintro n s ⟨i,rfl,h1,h2,h3,h4⟩
  repeat' first
    | (refine And.intro ?_ ?_)
    | (intro h)
  all_goals first
    | (show lowEdges _=true;kernel_rfl)|(show logOk _ _=true;kernel_rfl)|exact True.intro|exact rfl|exact Or.inr rfl|exact Or.inl rfl
    | omega
    | exact of_decide_eq_true ‹_›
    | exact hl ▸ of_decide_eq_true ‹decide (i < (a.length:Int))=true›
    | exact ⟨_,_,rfl⟩
    | exact res_yes (eq_of_takes hl h1 h2 ‹_› h4)
    | (have hi:i < (a.length:Int):=of_decide_eq_true ‹_›
       have wra:WfRow T [.i .i64,.i .i64] (a.getD i.toNat []):=wa.row rfl (by omega)
       have wrb:WfRow T [.i .i64,.i .i64] (b.getD i.toNat []):=wb.row rfl (by omega)
       first
         | exact ⟨_,_,wra,wrb,rfl⟩
         | exact ⟨_,_,wra,wrb,Nat.lt_of_lt_of_le (size_row (by omega)) (Nat.le_of_lt_succ hs),rfl⟩
         | (refine res_no ?_;rintro rfl;simp_all [eqDs,eqD,str_inj];done)
         | (refine ⟨a.length - (i+1).toNat,by omega,i+1,?_,by omega,by omega,rfl,takes_next h1 hi hl h4 (row_eq wra wrb ?_)⟩
            · exact congrArg (fun z=>([argS 167 a,argS 167 b,.val false [.i .i64 z]],[])) (wrap_next h1 hi la)
            · simp_all [eqDs,eqD,str_inj,csD,CV.d,rowC,ofD,argG,sub,List.zipIdx,List.range,List.range.loop]))
    | rfl
theorem ok116:FOk Tryz.prog T 116 (eqG [.l 3,.l 167]):=by
  refine fok (env:=envL [(72,(eqS 3)),(164,(eqS 167))]) (N:=17) tabT (envL_cons ok72 (envL_cons ok164 envL_nil)) mixed Tryz.func116 rfl Tryz.call116 Tryz.ntmps116 ?_
  rintro args ⟨a,b,wa,wb,rfl⟩ _
  refine ⟨by simp,?_⟩
  rw [Tryz.results116]
  repeat' first
    | (refine And.intro ?_ ?_)
    | (intro h)
  all_goals first
    | (show lowEdges _=true;kernel_rfl)|(show logOk _ _=true;kernel_rfl)|exact True.intro|exact rfl|exact Or.inr rfl|exact Or.inl rfl
    | exact ⟨_,_,rfl⟩
    | exact ⟨_,_,Nat.lt_of_lt_of_le (size_cell (by rw [wa.1];decide)) (Nat.le_of_lt_succ hs),rfl⟩
    | exact ⟨sub a 0 1,sub b 0 1,wa.sub 0 1 (by decide),wb.sub 0 1 (by decide),rfl⟩|exact ⟨sub a 1 1,sub b 1 1,wa.sub 1 1 (by decide),wb.sub 1 1 (by decide),rfl⟩
    | (exact res_no (fun he=>by have e:=row_eq wa wb he;subst e;simp_all))
    | (refine res_yes ?_;simp_all [eqDs,eqD,str_inj,csD,CV.d,rowC,ofD,argG,sub,List.zipIdx,List.range,List.range.loop];done)
theorem ok57:FOk Tryz.prog T 57 (eqS 131):=by
  refine fok (env:=envL [(116,(eqG [.l 3,.l 167]))]) (N:=27) tabT (envL_cons ok116 envL_nil) mixed Tryz.func57 rfl Tryz.call57 Tryz.ntmps57 ?_
  rintro args ⟨a,b,rfl⟩ hwf
  have wa:WfD T (.l 131) (.l a):=arg0 hwf (List.mem_singleton_self _)
  have wb:WfD T (.l 131) (.l b):=arg1 hwf (List.mem_singleton_self _)
  clear hwf
  have la:=wa.len
  refine ⟨by simp,?_⟩
  rw [Tryz.results57]
  repeat' first
    | (refine And.intro ?_ ?_)
    | (intro h)
  all_goals first
    | (show lowEdges _=true;kernel_rfl)|(show logOk _ _=true;kernel_rfl)|exact True.intro|exact rfl|exact Or.inr rfl|exact Or.inl rfl
    | exact res_no (ne_len ‹_›)
    | skip
  have hl:=eq_len ‹_›
  refine awp_loop (Q:=_) [0,1,5] [] (fun n s=>∃ i:Int,s=([argS 131 a,argS 131 b,.val false [.i .i64 i]],[])∧0≤i∧i≤a.length∧n=a.length - i.toNat∧a.take i.toNat=b.take i.toNat) ?_ ?_
  · exact ⟨rfl,a.length - 0,_,rfl,by omega,by omega,rfl,rfl⟩
  rintro n s ⟨i,rfl,h1,h2,h3,h4⟩
  repeat' first
    | (refine And.intro ?_ ?_)
    | (intro h)
  all_goals first
    | (show lowEdges _=true;kernel_rfl)|(show logOk _ _=true;kernel_rfl)|exact True.intro|exact rfl|exact Or.inr rfl|exact Or.inl rfl
    | omega
    | exact of_decide_eq_true ‹_›
    | exact hl ▸ of_decide_eq_true ‹decide (i < (a.length:Int))=true›
    | exact ⟨_,_,rfl⟩
    | exact res_yes (eq_of_takes hl h1 h2 ‹_› h4)
    | (have hi:i < (a.length:Int):=of_decide_eq_true ‹_›
       have wra:WfRow T [.l 3,.l 167] (a.getD i.toNat []):=wa.row rfl (by omega)
       have wrb:WfRow T [.l 3,.l 167] (b.getD i.toNat []):=wb.row rfl (by omega)
       first
         | exact ⟨_,_,wra,wrb,rfl⟩
         | exact ⟨_,_,wra,wrb,Nat.lt_of_lt_of_le (size_row (by omega)) (Nat.le_of_lt_succ hs),rfl⟩
         | (refine res_no ?_;rintro rfl;simp_all [eqDs,eqD,str_inj];done)
         | (refine ⟨a.length - (i+1).toNat,by omega,i+1,?_,by omega,by omega,rfl,takes_next h1 hi hl h4 (row_eq wra wrb ?_)⟩
            · exact congrArg (fun z=>([argS 131 a,argS 131 b,.val false [.i .i64 z]],[])) (wrap_next h1 hi la)
            · simp_all [eqDs,eqD,str_inj,csD,CV.d,rowC,ofD,argG,sub,List.zipIdx,List.range,List.range.loop]))
    | rfl
theorem step26 (n:Nat) (hn:FOk Tryz.prog T 55 (eqSn 53 n)):FOk Tryz.prog T 26 (eqGn [.i .i64,.i .i64,.i .i64,.s,.l 53,.l 9,.l 131] (n+1)):=by
  refine fok (env:=envL [(55,(eqSn 53 n)),(56,(eqS 9)),(57,(eqS 131))]) (N:=43) tabT (envL_cons hn (envL_cons ok56 (envL_cons ok57 envL_nil))) mixed Tryz.func26 rfl Tryz.call26 Tryz.ntmps26 ?_
  rintro args ⟨a,b,wa,wb,hs,rfl⟩ _
  refine ⟨by simp,?_⟩
  rw [Tryz.results26]
  repeat' first
    | (refine And.intro ?_ ?_)
    | (intro h)
  all_goals first
    | (show lowEdges _=true;kernel_rfl)|(show logOk _ _=true;kernel_rfl)|exact True.intro|exact rfl|exact Or.inr rfl|exact Or.inl rfl
    | exact ⟨_,_,rfl⟩
    | exact ⟨_,_,Nat.lt_of_lt_of_le (size_cell (by rw [wa.1];decide)) (Nat.le_of_lt_succ hs),rfl⟩
    | exact ⟨sub a 0 1,sub b 0 1,wa.sub 0 1 (by decide),wb.sub 0 1 (by decide),rfl⟩|exact ⟨sub a 1 1,sub b 1 1,wa.sub 1 1 (by decide),wb.sub 1 1 (by decide),rfl⟩|exact ⟨sub a 2 1,sub b 2 1,wa.sub 2 1 (by decide),wb.sub 2 1 (by decide),rfl⟩|exact ⟨sub a 3 1,sub b 3 1,wa.sub 3 1 (by decide),wb.sub 3 1 (by decide),rfl⟩|exact ⟨sub a 4 1,sub b 4 1,wa.sub 4 1 (by decide),wb.sub 4 1 (by decide),rfl⟩|exact ⟨sub a 5 1,sub b 5 1,wa.sub 5 1 (by decide),wb.sub 5 1 (by decide),rfl⟩|exact ⟨sub a 6 1,sub b 6 1,wa.sub 6 1 (by decide),wb.sub 6 1 (by decide),rfl⟩
    | (exact res_no (fun he=>by have e:=row_eq wa wb he;subst e;simp_all))
    | (refine res_yes ?_;simp_all [eqDs,eqD,str_inj,csD,CV.d,rowC,ofD,argG,sub,List.zipIdx,List.range,List.range.loop];done)
theorem step55 (n:Nat) (hn:FOk Tryz.prog T 26 (eqGn [.i .i64,.i .i64,.i .i64,.s,.l 53,.l 9,.l 131] n)):FOk Tryz.prog T 55 (eqSn 53 (n+1)):=by
  refine fok (env:=envL [(26,(eqGn [.i .i64,.i .i64,.i .i64,.s,.l 53,.l 9,.l 131] n))]) (N:=27) tabT (envL_cons hn envL_nil) mixed Tryz.func55 rfl Tryz.call55 Tryz.ntmps55 ?_
  rintro args ⟨a,b,hs,rfl⟩ hwf
  have wa:WfD T (.l 53) (.l a):=arg0 hwf (List.mem_singleton_self _)
  have wb:WfD T (.l 53) (.l b):=arg1 hwf (List.mem_singleton_self _)
  clear hwf
  have la:=wa.len
  refine ⟨by simp,?_⟩
  rw [Tryz.results55]
  repeat' first
    | (refine And.intro ?_ ?_)
    | (intro h)
  all_goals first
    | (show lowEdges _=true;kernel_rfl)|(show logOk _ _=true;kernel_rfl)|exact True.intro|exact rfl|exact Or.inr rfl|exact Or.inl rfl
    | exact res_no (ne_len ‹_›)
    | skip
  have hl:=eq_len ‹_›
  refine awp_loop (Q:=_) [0,1,5] [] (fun n s=>∃ i:Int,s=([argS 53 a,argS 53 b,.val false [.i .i64 i]],[])∧0≤i∧i≤a.length∧n=a.length - i.toNat∧a.take i.toNat=b.take i.toNat) ?_ ?_
  · exact ⟨rfl,a.length - 0,_,rfl,by omega,by omega,rfl,rfl⟩
  rintro n s ⟨i,rfl,h1,h2,h3,h4⟩
  repeat' first
    | (refine And.intro ?_ ?_)
    | (intro h)
  all_goals first
    | (show lowEdges _=true;kernel_rfl)|(show logOk _ _=true;kernel_rfl)|exact True.intro|exact rfl|exact Or.inr rfl|exact Or.inl rfl
    | omega
    | exact of_decide_eq_true ‹_›
    | exact hl ▸ of_decide_eq_true ‹decide (i < (a.length:Int))=true›
    | exact ⟨_,_,rfl⟩
    | exact res_yes (eq_of_takes hl h1 h2 ‹_› h4)
    | (have hi:i < (a.length:Int):=of_decide_eq_true ‹_›
       have wra:WfRow T [.i .i64,.i .i64,.i .i64,.s,.l 53,.l 9,.l 131] (a.getD i.toNat []):=wa.row rfl (by omega)
       have wrb:WfRow T [.i .i64,.i .i64,.i .i64,.s,.l 53,.l 9,.l 131] (b.getD i.toNat []):=wb.row rfl (by omega)
       first
         | exact ⟨_,_,wra,wrb,rfl⟩
         | exact ⟨_,_,wra,wrb,Nat.lt_of_lt_of_le (size_row (by omega)) (Nat.le_of_lt_succ hs),rfl⟩
         | (refine res_no ?_;rintro rfl;simp_all [eqDs,eqD,str_inj];done)
         | (refine ⟨a.length - (i+1).toNat,by omega,i+1,?_,by omega,by omega,rfl,takes_next h1 hi hl h4 (row_eq wra wrb ?_)⟩
            · exact congrArg (fun z=>([argS 53 a,argS 53 b,.val false [.i .i64 z]],[])) (wrap_next h1 hi la)
            · simp_all [eqDs,eqD,str_inj,csD,CV.d,rowC,ofD,argG,sub,List.zipIdx,List.range,List.range.loop]))
    | rfl
theorem zero26:FOk Tryz.prog T 26 (eqGn [.i .i64,.i .i64,.i .i64,.s,.l 53,.l 9,.l 131] 0):=by
  refine fok (env:=envL []) (N:=43) tabT envL_nil mixed Tryz.func26 rfl Tryz.call26 Tryz.ntmps26 ?_
  rintro args ⟨a,b,wa,wb,hs,rfl⟩ _
  exact absurd hs (Nat.not_lt_zero _)
theorem zero55:FOk Tryz.prog T 55 (eqSn 53 0):=by
  refine fok (env:=envL []) (N:=27) tabT envL_nil mixed Tryz.func55 rfl Tryz.call55 Tryz.ntmps55 ?_
  rintro args ⟨a,b,hs,rfl⟩ _
  exact absurd hs (Nat.not_lt_zero _)
theorem both26 (n:Nat):FOk Tryz.prog T 26 (eqGn [.i .i64,.i .i64,.i .i64,.s,.l 53,.l 9,.l 131] n)∧FOk Tryz.prog T 55 (eqSn 53 n):=by
  induction n with
  | zero=>exact ⟨zero26,zero55⟩
  | succ n ih=>exact ⟨step26 n ih.2,step55 n ih.1⟩
theorem ok26:FOk Tryz.prog T 26 (eqG [.i .i64,.i .i64,.i .i64,.s,.l 53,.l 9,.l 131]):=FOk.lift (s:=fun n=>(eqGn [.i .i64,.i .i64,.i .i64,.s,.l 53,.l 9,.l 131] n)) (fun n=>(both26 n).1) (fun args ⟨a,b,wa,wb,h⟩=>⟨SizeOf.sizeOf a+1,a,b,wa,wb,Nat.lt_succ_self _,h⟩) (fun n=>rfl)
end Go.Proofs.YtkpnfbdoaljkpaaGreatDoor.Ab
