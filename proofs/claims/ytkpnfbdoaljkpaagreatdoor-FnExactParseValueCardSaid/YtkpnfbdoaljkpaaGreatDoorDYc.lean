/- Origins and tables, exactly: printed by a program of this -/
import Derived.Test.YtkpnfbdoaljkpaaGreatDoorDYb
namespace Go.Proofs.YtkpnfbdoaljkpaaGreatDoor.Ab
open Go.RowKit
set_option linter.unusedVariables false
set_option linter.unusedSimpArgs false
set_option maxRecDepth 100000
set_option maxHeartbeats 2000000
theorem xk213:FOk Tryz.prog T 213 (spGGB T CO befO):=by
  refine fok (env:=envL []) (N:=24) tabT envL_nil mixed Tryz.func213 rfl Tryz.call213 Tryz.ntmps213 ?_
  rintro args ⟨a,b,wa,wb,rfl⟩ hwf
  refine ⟨by simp,?_⟩
  clear hwf
  rw [Tryz.results213]
  repeat' first
    | (refine And.intro ?_ ?_)
    | (intro h;simp only [reduceCtorEq] at h;done)
    | (intro h;rw [h])
    | (intro h)
  all_goals first
    | (show lowEdges _=true;kernel_rfl)|(show logOk _ _=true;kernel_rfl)|exact True.intro|exact Or.inr rfl|exact Or.inl rfl
    | (refine resB ((?_:_=befO a b));show _=(decide (iAt a 0 < iAt b 0) || (iAt a 0 == iAt b 0 && decide (iAt a 1 < iAt b 1)));simp_all only [Bool.not_eq_true',Bool.not_eq_false',Bool.not_true,Bool.not_false,Bool.or_true,Bool.true_or,Bool.or_false,Bool.false_or,Bool.and_true,Bool.true_and,Bool.and_false,Bool.false_and,Bool.not_not];done)
    | skip
theorem xk189:FOk Tryz.prog T 189 (spGGB T CO befO):=by
  refine fok (env:=envL []) (N:=24) tabT envL_nil mixed Tryz.func189 rfl Tryz.call189 Tryz.ntmps189 ?_
  rintro args ⟨a,b,wa,wb,rfl⟩ hwf
  refine ⟨by simp,?_⟩
  clear hwf
  rw [Tryz.results189]
  repeat' first
    | (refine And.intro ?_ ?_)
    | (intro h;simp only [reduceCtorEq] at h;done)
    | (intro h;rw [h])
    | (intro h)
  all_goals first
    | (show lowEdges _=true;kernel_rfl)|(show logOk _ _=true;kernel_rfl)|exact True.intro|exact Or.inr rfl|exact Or.inl rfl
    | (refine resB ((?_:_=befO a b));show _=(decide (iAt a 0 < iAt b 0) || (iAt a 0 == iAt b 0 && decide (iAt a 1 < iAt b 1)));simp_all only [Bool.not_eq_true',Bool.not_eq_false',Bool.not_true,Bool.not_false,Bool.or_true,Bool.true_or,Bool.or_false,Bool.false_or,Bool.and_true,Bool.true_and,Bool.and_false,Bool.false_and,Bool.not_not];done)
    | skip
theorem xk185:FOk Tryz.prog T 185 (spSB 167 ascOk):=by
  refine fok (env:=envL [(213,(spGGB T CO befO))]) (N:=41) tabT (envL_cons xk213 envL_nil) mixed Tryz.func185 rfl Tryz.call185 Tryz.ntmps185 ?_
  rintro args ⟨a,rfl⟩ hwf
  have wa:WfD T (.l 167) (.l a):=arg0 hwf (List.mem_singleton_self _)
  have hl:a.length≤maxLen:=wa.len
  refine ⟨by simp,?_⟩
  clear hwf
  rw [Tryz.results185]
  repeat' first
    | (refine And.intro ?_ ?_)
    | (intro h;simp only [reduceCtorEq] at h;done)
    | (intro h;rw [h])
    | (intro h)
  all_goals first
    | (show lowEdges _=true;kernel_rfl)|(show logOk _ _=true;kernel_rfl)|exact True.intro|exact Or.inr rfl|exact Or.inl rfl
    | skip
  refine awp_loop (Q:=_) [0,3] [] (fun n st=>∃ i:Nat,st=([argS 167 a,.val false [.i .i64 (i:Int)]],[])∧(∀ j,j < i→ascB a j=true)∧i≤a.length∧n=a.length - i) ?_ ?_
  · exact ⟨rfl,a.length,0,rfl,nolt _,Nat.zero_le _,rfl⟩
  rintro n st ⟨i,rfl,hI,hle,rfl⟩
  repeat' first
    | (refine And.intro ?_ ?_)
    | (intro h;simp only [reduceCtorEq] at h;done)
    | (intro h;rw [h])
    | (intro h)
  all_goals first
    | (show lowEdges _=true;kernel_rfl)|(show logOk _ _=true;kernel_rfl)|exact True.intro|exact Or.inr rfl|exact Or.inl rfl
    | with_reducible exact Int.natCast_nonneg _
    | (have hi:i < a.length:=ltN (by with_reducible assumption)
       first
         | with_reducible exact of_decide_eq_true (by with_reducible assumption)
         | (show (Int.toNat (i:Int)) < _;rw [Int.toNat_natCast];exact hi)
         | (show (i:Int) < _;omega)
           | with_reducible exact Int.natCast_nonneg _
           | (show IntKind.i64.wrap ((i:Int) - 1) < (a.length:Int);rw [wrapP (of_decide_eq_true (show decide ((i:Int) > 0)=true by with_reducible assumption)) hi hl];omega)
           | (rw [wrapP (of_decide_eq_true (show decide ((i:Int) > 0)=true by with_reducible assumption)) hi hl];omega)
           | (rw [wrapP (of_decide_eq_true (show decide ((i:Int) > 0)=true by with_reducible assumption)) hi hl,Int.toNat_natCast];omega)
           | exact ⟨_,_,wa.row rfl (by rw [wrapP (of_decide_eq_true (show decide ((i:Int) > 0)=true by with_reducible assumption)) hi hl,Int.toNat_natCast];omega),wa.row rfl (by rw [Int.toNat_natCast];exact hi),rfl⟩
           | exact resBs' (P:=ascB a) hi (asc_no1 (l:=a) (i:=i) (by assumption))
           | exact resBs' (P:=ascB a) hi (asc_no2 (l:=a) (i:=i) (by assumption))
           | exact resBs' (P:=ascB a) hi (asc_no3 (l:=a) (i:=i) (wrapP (of_decide_eq_true (show decide ((i:Int) > 0)=true by with_reducible assumption)) hi hl) (show decide ((i:Int) > 0)=true by with_reducible assumption) (by assumption))
           | (unfold ascOk;exact resBe' hI hi)
           | (refine ⟨a.length - (i+1),by omega,i+1,?_,all_succ hI (P:=fun j=>ascB a j) ?_,by omega,rfl⟩
              · exact congrArg (fun z:Int=>(([argS 167 a,.val false [.i .i64 z]],[]):Snap)) (wrapN hi hl)
              · exact asc_yes1 (l:=a) (i:=i) (by assumption) (by assumption) (by with_reducible assumption))
           | (refine ⟨a.length - (i+1),by omega,i+1,?_,all_succ hI (P:=fun j=>ascB a j) ?_,by omega,rfl⟩
              · exact congrArg (fun z:Int=>(([argS 167 a,.val false [.i .i64 z]],[]):Snap)) (wrapN hi hl)
              · exact asc_yes2 (l:=a) (i:=i) (wrapP (of_decide_eq_true (show decide ((i:Int) > 0)=true by with_reducible assumption)) hi hl) (by assumption) (by assumption) (by assumption)))
    | (have hi:¬ i < a.length:=nltN (by with_reducible assumption)
       first
           | with_reducible exact Int.natCast_nonneg _
           | (show IntKind.i64.wrap ((i:Int) - 1) < (a.length:Int);rw [wrapP (of_decide_eq_true (show decide ((i:Int) > 0)=true by with_reducible assumption)) hi hl];omega)
           | (rw [wrapP (of_decide_eq_true (show decide ((i:Int) > 0)=true by with_reducible assumption)) hi hl];omega)
           | (rw [wrapP (of_decide_eq_true (show decide ((i:Int) > 0)=true by with_reducible assumption)) hi hl,Int.toNat_natCast];omega)
           | exact ⟨_,_,wa.row rfl (by rw [wrapP (of_decide_eq_true (show decide ((i:Int) > 0)=true by with_reducible assumption)) hi hl,Int.toNat_natCast];omega),wa.row rfl (by rw [Int.toNat_natCast];exact hi),rfl⟩
           | exact resBs' (P:=ascB a) hi (asc_no1 (l:=a) (i:=i) (by assumption))
           | exact resBs' (P:=ascB a) hi (asc_no2 (l:=a) (i:=i) (by assumption))
           | exact resBs' (P:=ascB a) hi (asc_no3 (l:=a) (i:=i) (wrapP (of_decide_eq_true (show decide ((i:Int) > 0)=true by with_reducible assumption)) hi hl) (show decide ((i:Int) > 0)=true by with_reducible assumption) (by assumption))
           | (unfold ascOk;exact resBe' hI hi)
           | (refine ⟨a.length - (i+1),by omega,i+1,?_,all_succ hI (P:=fun j=>ascB a j) ?_,by omega,rfl⟩
              · exact congrArg (fun z:Int=>(([argS 167 a,.val false [.i .i64 z]],[]):Snap)) (wrapN hi hl)
              · exact asc_yes1 (l:=a) (i:=i) (by assumption) (by assumption) (by with_reducible assumption))
           | (refine ⟨a.length - (i+1),by omega,i+1,?_,all_succ hI (P:=fun j=>ascB a j) ?_,by omega,rfl⟩
              · exact congrArg (fun z:Int=>(([argS 167 a,.val false [.i .i64 z]],[]):Snap)) (wrapN hi hl)
              · exact asc_yes2 (l:=a) (i:=i) (wrapP (of_decide_eq_true (show decide ((i:Int) > 0)=true by with_reducible assumption)) hi hl) (by assumption) (by assumption) (by assumption)))
    | (show Alive _ _;exact rfl)
    | exact absurd (show (!false)=false by with_reducible assumption) (by decide)
    | exact absurd (show (!true)=true by with_reducible assumption) (by decide)
    | skip
theorem xk150:FOk Tryz.prog T 150 (spGB T [.i .i64,.i .i64,.i .i64,.s,.l 53,.l 9,.l 131] (fun _=>True) tblV):=by
  refine fok (env:=envL [(184,(spSB 9 colsOk)),(185,(spSB 167 ascOk)),(147,spNum)]) (N:=55) tabT (envL_cons xk184 (envL_cons xk185 (envL_cons ok147 envL_nil))) mixed Tryz.func150 rfl Tryz.call150 Tryz.ntmps150 ?_
  rintro args ⟨a,wa,_,rfl⟩ hwf
  have wA:WfD T (.l 131) (.l (a.getD 6 default).rows):=wa.rows (j:=6) rfl
  have hl:=wA.len
  refine ⟨by simp,?_⟩
  clear hwf
  rw [Tryz.results150]
  repeat' first
    | (refine And.intro ?_ ?_)
    | (intro h;simp only [reduceCtorEq] at h;done)
    | (intro h;rw [h])
    | (intro h)
  all_goals first
    | (show lowEdges _=true;kernel_rfl)|(show logOk _ _=true;kernel_rfl)|exact True.intro|exact Or.inr rfl|exact Or.inl rfl
    | exact ⟨_,rfl⟩
    | exact tbl_no1 (a:=a) (of_notT (by assumption))
    | exact tbl_no2 (a:=a) (by assumption)
    | skip
  have hc:colsOk (a.getD 5 default).rows=true:=of_notF (by assumption)
  have hr:decide (((a.getD 6 default).rows.length:Int) > 12)=false:=by assumption
  refine awp_loop (Q:=_) [1,3] [1] (fun n st=>∃ i:Nat,st=([.ptr 1 1 0,.val false [.i .i64 (i:Int)]],[(1,(rowC [.i .i64,.i .i64,.i .i64,.s,.l 53,.l 9,.l 131] a).map fun c=>.val false [c])])∧(∀ j,j < i→rowOk (a.getD 5 default).rows.length (rAt (a.getD 6 default).rows j)=true)∧i≤(a.getD 6 default).rows.length∧n=(a.getD 6 default).rows.length - i) ?_ ?_
  · exact ⟨rfl,(a.getD 6 default).rows.length,0,rfl,nolt _,Nat.zero_le _,rfl⟩
  rintro n st ⟨i,rfl,hI,hle,rfl⟩
  repeat' first
    | (refine And.intro ?_ ?_)
    | (intro h;simp only [reduceCtorEq] at h;done)
    | (intro h;rw [h])
    | (intro h)
  all_goals first
    | (show lowEdges _=true;kernel_rfl)|(show logOk _ _=true;kernel_rfl)|exact True.intro|exact Or.inr rfl|exact Or.inl rfl
    | with_reducible exact Int.natCast_nonneg _
    | (have hi:i < (a.getD 6 default).rows.length:=ltN (by with_reducible assumption)
       first
         | exact ⟨_,rfl⟩
         | with_reducible exact of_decide_eq_true (by with_reducible assumption)
         | (show (Int.toNat (i:Int)) < _;rw [Int.toNat_natCast];exact hi)
         | exact tbl_no3 hi (row_no1 (by assumption))
         | exact tbl_no3 hi (row_no2 (of_notT (by assumption)))
         | (show Alive _ _;exact rfl))
    | (have hi:¬ i < (a.getD 6 default).rows.length:=nltN (by with_reducible assumption)
       exact tbl_yes hc hr hI hi)
    | skip
  have hi:i < (a.getD 6 default).rows.length:=ltN (by assumption)
  have wr:WfRow T [.l 3,.l 167] (rAt (a.getD 6 default).rows i):=wA.row rfl (by rw [Int.toNat_natCast];exact hi)
  have wB:WfD T (.l 3) (.l ((rAt (a.getD 6 default).rows i).getD 0 default).rows):=wr.rows (j:=0) rfl
  have lb:=wB.len
  have wC:WfD T (.l 167) (.l ((rAt (a.getD 6 default).rows i).getD 1 default).rows):=wr.rows (j:=1) rfl
  have lc:=wC.len
  have hrow:=row_len (n:=(a.getD 5 default).rows.length) (r:=(rAt (a.getD 6 default).rows i)) (by assumption)
  have hasc:ascOk ((rAt (a.getD 6 default).rows i).getD 1 default).rows=true:=of_notF (by assumption)
  refine awp_loop (Q:=_) [1,3,4,5] [1,4] (fun n st=>∃ k:Nat,st=([.ptr 1 1 0,.val false [.i .i64 (i:Int)],.ptr 4 1 0,.val false [.i .i64 (k:Int)]],[(1,(rowC [.i .i64,.i .i64,.i .i64,.s,.l 53,.l 9,.l 131] a).map fun c=>.val false [c]),(1,(rowC [.l 3,.l 167] (rAt (a.getD 6 default).rows i)).map fun c=>.val false [c])])∧(∀ j,j < k→inR (iAt (rAt ((rAt (a.getD 6 default).rows i).getD 0 default).rows j) 0) (-1000000000) 1000000000=true)∧k≤((rAt (a.getD 6 default).rows i).getD 0 default).rows.length∧n=((rAt (a.getD 6 default).rows i).getD 0 default).rows.length - k) ?_ ?_
  · exact ⟨rfl,((rAt (a.getD 6 default).rows i).getD 0 default).rows.length,0,rfl,nolt _,Nat.zero_le _,rfl⟩
  rintro n st ⟨k,rfl,kI,kle,rfl⟩
  repeat' first
    | (refine And.intro ?_ ?_)
    | (intro h;simp only [reduceCtorEq] at h;done)
    | (intro h;rw [h])
    | (intro h)
  all_goals first
    | (show lowEdges _=true;kernel_rfl)|(show logOk _ _=true;kernel_rfl)|exact True.intro|exact Or.inr rfl|exact Or.inl rfl
    | with_reducible exact Int.natCast_nonneg _
    | (have hk:k < ((rAt (a.getD 6 default).rows i).getD 0 default).rows.length:=ltN (by with_reducible assumption)
       first
         | exact ⟨_,rfl⟩
         | with_reducible exact of_decide_eq_true (by with_reducible assumption)
         | (show (Int.toNat (k:Int)) < _;rw [Int.toNat_natCast];exact hk)
         | exact tbl_no3 hi (row_no3 (allB_stop (P:=fun j=>inR (iAt (rAt ((rAt (a.getD 6 default).rows i).getD 0 default).rows j) 0) (-1000000000) 1000000000) hk (of_notT (by assumption))))
         | (show Alive _ _;exact rfl)
         | (refine ⟨((rAt (a.getD 6 default).rows i).getD 0 default).rows.length - (k+1),by omega,k+1,?_,all_succ kI (P:=fun j=>inR (iAt (rAt ((rAt (a.getD 6 default).rows i).getD 0 default).rows j) 0) (-1000000000) 1000000000 ) (of_notF (by assumption)),by omega,rfl⟩
            exact congrArg (fun z:Int=>(([.ptr 1 1 0,.val false [.i .i64 (i:Int)],.ptr 4 1 0,.val false [.i .i64 z]],[(1,(rowC [.i .i64,.i .i64,.i .i64,.s,.l 53,.l 9,.l 131] a).map fun c=>.val false [c]),(1,(rowC [.l 3,.l 167] (rAt (a.getD 6 default).rows i)).map fun c=>.val false [c])]):Snap)) (wrapN hk lb)))
    | (have hk:¬ k < ((rAt (a.getD 6 default).rows i).getD 0 default).rows.length:=nltN (by with_reducible assumption)
       have hnum:numsOk ((rAt (a.getD 6 default).rows i).getD 0 default).rows=true:=allB_end kI hk
       first
         | (refine ⟨(a.getD 6 default).rows.length - (i+1),by omega,i+1,?_,all_succ hI (P:=fun j=>rowOk (a.getD 5 default).rows.length (rAt (a.getD 6 default).rows j)) ?_,by omega,rfl⟩
            · exact congrArg (fun z:Int=>(([.ptr 1 1 0,.val false [.i .i64 z]],[(1,(rowC [.i .i64,.i .i64,.i .i64,.s,.l 53,.l 9,.l 131] a).map fun c=>.val false [c])]):Snap)) (wrapN hi hl)
            · exact row_yes hrow hasc hnum)
         | (show Alive _ _;exact rfl))
    | skip
theorem xk161:FOk Tryz.prog T 161 (spGB T [.i .i64,.i .i64,.i .i64,.s,.l 53,.l 9,.l 131] (fun _=>True) tblV):=by
  refine fok (env:=envL [(188,(spSB 9 colsOk)),(159,spNum),(189,(spGGB T CO befO))]) (N:=77) tabT (envL_cons xk188 (envL_cons ok159 (envL_cons xk189 envL_nil))) mixed Tryz.func161 rfl Tryz.call161 Tryz.ntmps161 ?_
  rintro args ⟨a,wa,_,rfl⟩ hwf
  have wA:WfD T (.l 131) (.l (a.getD 6 default).rows):=wa.rows (j:=6) rfl
  have hl:=wA.len
  refine ⟨by simp,?_⟩
  clear hwf
  rw [Tryz.results161]
  repeat' first
    | (refine And.intro ?_ ?_)
    | (intro h;simp only [reduceCtorEq] at h;done)
    | (intro h;rw [h])
    | (intro h)
  all_goals first
    | (show lowEdges _=true;kernel_rfl)|(show logOk _ _=true;kernel_rfl)|exact True.intro|exact Or.inr rfl|exact Or.inl rfl
    | exact ⟨_,rfl⟩
    | exact tbl_no1 (a:=a) (of_notT (by assumption))
    | exact tbl_no2 (a:=a) (by assumption)
    | skip
  have hc:colsOk (a.getD 5 default).rows=true:=of_notF (by assumption)
  have hr:decide (((a.getD 6 default).rows.length:Int) > 12)=false:=by assumption
  refine awp_loop (Q:=_) [1,20,21,22] [1] (fun n st=>∃ i:Nat,st=([.ptr 1 1 0,argS 131 (a.getD 6 default).rows,.val false [.i .i64 (a.getD 6 default).rows.length],.val false [.i .i64 (i:Int)]],[(1,(rowC [.i .i64,.i .i64,.i .i64,.s,.l 53,.l 9,.l 131] a).map fun c=>.val false [c])])∧(∀ j,j < i→rowOk (a.getD 5 default).rows.length (rAt (a.getD 6 default).rows j)=true)∧i≤(a.getD 6 default).rows.length∧n=(a.getD 6 default).rows.length - i) ?_ ?_
  · exact ⟨rfl,(a.getD 6 default).rows.length,0,rfl,nolt _,Nat.zero_le _,rfl⟩
  rintro n st ⟨i,rfl,hI,hle,rfl⟩
  repeat' first
    | (refine And.intro ?_ ?_)
    | (intro h;simp only [reduceCtorEq] at h;done)
    | (intro h;rw [h])
    | (intro h)
  all_goals first
    | (show lowEdges _=true;kernel_rfl)|(show logOk _ _=true;kernel_rfl)|exact True.intro|exact Or.inr rfl|exact Or.inl rfl
    | with_reducible exact Int.natCast_nonneg _
    | (have hi:i < (a.getD 6 default).rows.length:=ltN (by with_reducible assumption)
       first
         | exact ⟨_,rfl⟩
         | with_reducible exact of_decide_eq_true (by with_reducible assumption)
         | (show (Int.toNat (i:Int)) < _;rw [Int.toNat_natCast];exact hi)
         | exact tbl_no3 hi (row_no1 (by assumption))
         | exact tbl_no3 hi (row_no2 (of_notT (by assumption)))
         | (show Alive _ _;exact rfl))
    | (have hi:¬ i < (a.getD 6 default).rows.length:=nltN (by with_reducible assumption)
       exact tbl_yes hc hr hI hi)
    | skip
  have hi:i < (a.getD 6 default).rows.length:=ltN (by assumption)
  have wr:WfRow T [.l 3,.l 167] (rAt (a.getD 6 default).rows i):=wA.row rfl (by rw [Int.toNat_natCast];exact hi)
  have wB:WfD T (.l 3) (.l ((rAt (a.getD 6 default).rows i).getD 0 default).rows):=wr.rows (j:=0) rfl
  have lb:=wB.len
  have wC:WfD T (.l 167) (.l ((rAt (a.getD 6 default).rows i).getD 1 default).rows):=wr.rows (j:=1) rfl
  have lc:=wC.len
  have hrow:=row_len (n:=(a.getD 5 default).rows.length) (r:=(rAt (a.getD 6 default).rows i)) (by assumption)

  refine awp_loop (Q:=_) [1,20,21,22,4,34,35,36] [1,4] (fun n st=>∃ k:Nat,st=([.ptr 1 1 0,argS 131 (a.getD 6 default).rows,.val false [.i .i64 (a.getD 6 default).rows.length],.val false [.i .i64 (i:Int)],.ptr 4 1 0,argS 3 ((rAt (a.getD 6 default).rows i).getD 0 default).rows,.val false [.i .i64 ((rAt (a.getD 6 default).rows i).getD 0 default).rows.length],.val false [.i .i64 (k:Int)]],[(1,(rowC [.i .i64,.i .i64,.i .i64,.s,.l 53,.l 9,.l 131] a).map fun c=>.val false [c]),(1,(rowC [.l 3,.l 167] (rAt (a.getD 6 default).rows i)).map fun c=>.val false [c])])∧(∀ j,j < k→inR (iAt (rAt ((rAt (a.getD 6 default).rows i).getD 0 default).rows j) 0) (-1000000000) 1000000000=true)∧k≤((rAt (a.getD 6 default).rows i).getD 0 default).rows.length∧n=((rAt (a.getD 6 default).rows i).getD 0 default).rows.length - k) ?_ ?_
  · exact ⟨rfl,((rAt (a.getD 6 default).rows i).getD 0 default).rows.length,0,rfl,nolt _,Nat.zero_le _,rfl⟩
  rintro n st ⟨k,rfl,kI,kle,rfl⟩
  repeat' first
    | (refine And.intro ?_ ?_)
    | (intro h;simp only [reduceCtorEq] at h;done)
    | (intro h;rw [h])
    | (intro h)
  all_goals first
    | (show lowEdges _=true;kernel_rfl)|(show logOk _ _=true;kernel_rfl)|exact True.intro|exact Or.inr rfl|exact Or.inl rfl
    | with_reducible exact Int.natCast_nonneg _
    | (have hk:k < ((rAt (a.getD 6 default).rows i).getD 0 default).rows.length:=ltN (by with_reducible assumption)
       first
         | exact ⟨_,rfl⟩
         | with_reducible exact of_decide_eq_true (by with_reducible assumption)
         | (show (Int.toNat (k:Int)) < _;rw [Int.toNat_natCast];exact hk)
         | exact tbl_no3 hi (row_no3 (allB_stop (P:=fun j=>inR (iAt (rAt ((rAt (a.getD 6 default).rows i).getD 0 default).rows j) 0) (-1000000000) 1000000000) hk (of_notT (by assumption))))
         | (show Alive _ _;exact rfl)
         | (refine ⟨((rAt (a.getD 6 default).rows i).getD 0 default).rows.length - (k+1),by omega,k+1,?_,all_succ kI (P:=fun j=>inR (iAt (rAt ((rAt (a.getD 6 default).rows i).getD 0 default).rows j) 0) (-1000000000) 1000000000 ) (of_notF (by assumption)),by omega,rfl⟩
            exact congrArg (fun z:Int=>(([.ptr 1 1 0,argS 131 (a.getD 6 default).rows,.val false [.i .i64 (a.getD 6 default).rows.length],.val false [.i .i64 (i:Int)],.ptr 4 1 0,argS 3 ((rAt (a.getD 6 default).rows i).getD 0 default).rows,.val false [.i .i64 ((rAt (a.getD 6 default).rows i).getD 0 default).rows.length],.val false [.i .i64 z]],[(1,(rowC [.i .i64,.i .i64,.i .i64,.s,.l 53,.l 9,.l 131] a).map fun c=>.val false [c]),(1,(rowC [.l 3,.l 167] (rAt (a.getD 6 default).rows i)).map fun c=>.val false [c])]):Snap)) (wrapN hk lb)))
    | (have hk:¬ k < ((rAt (a.getD 6 default).rows i).getD 0 default).rows.length:=nltN (by with_reducible assumption)
       have hnum:numsOk ((rAt (a.getD 6 default).rows i).getD 0 default).rows=true:=allB_end kI hk
       first
         | (fail "next")
         | (show Alive _ _;exact rfl))
    | skip
  have hk:¬ k < ((rAt (a.getD 6 default).rows i).getD 0 default).rows.length:=nltN (by with_reducible assumption)
  have hnum:numsOk ((rAt (a.getD 6 default).rows i).getD 0 default).rows=true:=allB_end kI hk
  refine awp_loop (Q:=_) [1,20,21,22,4,45,46,47] [1,4] (fun n st=>∃ m:Nat,st=([.ptr 1 1 0,argS 131 (a.getD 6 default).rows,.val false [.i .i64 (a.getD 6 default).rows.length],.val false [.i .i64 (i:Int)],.ptr 4 1 0,argS 167 ((rAt (a.getD 6 default).rows i).getD 1 default).rows,.val false [.i .i64 ((rAt (a.getD 6 default).rows i).getD 1 default).rows.length],.val false [.i .i64 (m:Int)]],[(1,(rowC [.i .i64,.i .i64,.i .i64,.s,.l 53,.l 9,.l 131] a).map fun c=>.val false [c]),(1,(rowC [.l 3,.l 167] (rAt (a.getD 6 default).rows i)).map fun c=>.val false [c])])∧(∀ j,j < m→ascB ((rAt (a.getD 6 default).rows i).getD 1 default).rows j=true)∧m≤((rAt (a.getD 6 default).rows i).getD 1 default).rows.length∧n=((rAt (a.getD 6 default).rows i).getD 1 default).rows.length - m) ?_ ?_
  · exact ⟨rfl,((rAt (a.getD 6 default).rows i).getD 1 default).rows.length,0,rfl,nolt _,Nat.zero_le _,rfl⟩
  rintro n st ⟨m,rfl,mI,mle,rfl⟩
  repeat' first
    | (refine And.intro ?_ ?_)
    | (intro h;simp only [reduceCtorEq] at h;done)
    | (intro h;rw [h])
    | (intro h)
  all_goals first
    | (show lowEdges _=true;kernel_rfl)|(show logOk _ _=true;kernel_rfl)|exact True.intro|exact Or.inr rfl|exact Or.inl rfl
    | with_reducible exact Int.natCast_nonneg _
    | (have hm:m < ((rAt (a.getD 6 default).rows i).getD 1 default).rows.length:=ltN (by with_reducible assumption)
       first
         | with_reducible exact of_decide_eq_true (by with_reducible assumption)
         | (show (Int.toNat (m:Int)) < _;rw [Int.toNat_natCast];exact hm)
         | (show IntKind.i64.wrap ((m:Int) - 1) < (((rAt (a.getD 6 default).rows i).getD 1 default).rows.length:Int);rw [wrapP (of_decide_eq_true (show decide ((m:Int) > 0)=true by with_reducible assumption)) hm lc];omega)
         | (rw [wrapP (of_decide_eq_true (show decide ((m:Int) > 0)=true by with_reducible assumption)) hm lc];omega)
         | (rw [wrapP (of_decide_eq_true (show decide ((m:Int) > 0)=true by with_reducible assumption)) hm lc,Int.toNat_natCast];omega)
         | exact ⟨_,_,wC.row rfl (by rw [wrapP (of_decide_eq_true (show decide ((m:Int) > 0)=true by with_reducible assumption)) hm lc,Int.toNat_natCast];omega),wC.row rfl (by rw [Int.toNat_natCast];exact hm),rfl⟩
         | exact tbl_no3 hi (row_no2 (allB_stop (P:=ascB ((rAt (a.getD 6 default).rows i).getD 1 default).rows) hm (asc_no1 (l:=((rAt (a.getD 6 default).rows i).getD 1 default).rows) (i:=m) (by assumption))))
         | exact tbl_no3 hi (row_no2 (allB_stop (P:=ascB ((rAt (a.getD 6 default).rows i).getD 1 default).rows) hm (asc_no2 (l:=((rAt (a.getD 6 default).rows i).getD 1 default).rows) (i:=m) (by assumption))))
         | exact tbl_no3 hi (row_no2 (allB_stop (P:=ascB ((rAt (a.getD 6 default).rows i).getD 1 default).rows) hm (asc_no3 (l:=((rAt (a.getD 6 default).rows i).getD 1 default).rows) (i:=m) (wrapP (of_decide_eq_true (show decide ((m:Int) > 0)=true by with_reducible assumption)) hm lc) (show decide ((m:Int) > 0)=true by with_reducible assumption) (by assumption))))
         | (show Alive _ _;exact rfl)
         | (refine ⟨((rAt (a.getD 6 default).rows i).getD 1 default).rows.length - (m+1),by omega,m+1,?_,all_succ mI (P:=ascB ((rAt (a.getD 6 default).rows i).getD 1 default).rows) (asc_yes1 (l:=((rAt (a.getD 6 default).rows i).getD 1 default).rows) (i:=m) (by assumption) (by assumption) (by with_reducible assumption)),by omega,rfl⟩
            exact congrArg (fun z:Int=>(([.ptr 1 1 0,argS 131 (a.getD 6 default).rows,.val false [.i .i64 (a.getD 6 default).rows.length],.val false [.i .i64 (i:Int)],.ptr 4 1 0,argS 167 ((rAt (a.getD 6 default).rows i).getD 1 default).rows,.val false [.i .i64 ((rAt (a.getD 6 default).rows i).getD 1 default).rows.length],.val false [.i .i64 z]],[(1,(rowC [.i .i64,.i .i64,.i .i64,.s,.l 53,.l 9,.l 131] a).map fun c=>.val false [c]),(1,(rowC [.l 3,.l 167] (rAt (a.getD 6 default).rows i)).map fun c=>.val false [c])]):Snap)) (wrapN hm lc))
         | (refine ⟨((rAt (a.getD 6 default).rows i).getD 1 default).rows.length - (m+1),by omega,m+1,?_,all_succ mI (P:=ascB ((rAt (a.getD 6 default).rows i).getD 1 default).rows) (asc_yes2 (l:=((rAt (a.getD 6 default).rows i).getD 1 default).rows) (i:=m) (wrapP (of_decide_eq_true (show decide ((m:Int) > 0)=true by with_reducible assumption)) hm lc) (by assumption) (by assumption) (by assumption)),by omega,rfl⟩
            exact congrArg (fun z:Int=>(([.ptr 1 1 0,argS 131 (a.getD 6 default).rows,.val false [.i .i64 (a.getD 6 default).rows.length],.val false [.i .i64 (i:Int)],.ptr 4 1 0,argS 167 ((rAt (a.getD 6 default).rows i).getD 1 default).rows,.val false [.i .i64 ((rAt (a.getD 6 default).rows i).getD 1 default).rows.length],.val false [.i .i64 z]],[(1,(rowC [.i .i64,.i .i64,.i .i64,.s,.l 53,.l 9,.l 131] a).map fun c=>.val false [c]),(1,(rowC [.l 3,.l 167] (rAt (a.getD 6 default).rows i)).map fun c=>.val false [c])]):Snap)) (wrapN hm lc)))
    | (have hm:¬ m < ((rAt (a.getD 6 default).rows i).getD 1 default).rows.length:=nltN (by with_reducible assumption)
       have hasc:ascOk ((rAt (a.getD 6 default).rows i).getD 1 default).rows=true:=allB_end mI hm
       first
         | (refine ⟨(a.getD 6 default).rows.length - (i+1),by omega,i+1,?_,all_succ hI (P:=fun j=>rowOk (a.getD 5 default).rows.length (rAt (a.getD 6 default).rows j)) ?_,by omega,rfl⟩
            · exact congrArg (fun z:Int=>(([.ptr 1 1 0,argS 131 (a.getD 6 default).rows,.val false [.i .i64 (a.getD 6 default).rows.length],.val false [.i .i64 z]],[(1,(rowC [.i .i64,.i .i64,.i .i64,.s,.l 53,.l 9,.l 131] a).map fun c=>.val false [c])]):Snap)) (wrapN hi hl)
            · exact row_yes hrow hasc hnum)
         | (show Alive _ _;exact rfl))
    | skip
end Go.Proofs.YtkpnfbdoaljkpaaGreatDoor.Ab
