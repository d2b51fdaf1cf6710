/- Depth and validity of values, exactly: printed by a program of this -/
import Derived.Test.YtkpnfbdoaljkpaaGreatDoorDYc
import Derived.Test.YtkpnfbdoaljkpaaGreatDoorDYs
namespace Go.Proofs.YtkpnfbdoaljkpaaGreatDoor.Ab
open Go.RowKit
set_option linter.unusedVariables false
set_option linter.unusedSimpArgs false
set_option maxRecDepth 100000
set_option maxHeartbeats 2000000
theorem xk182:FOk Tryz.prog T 182 (spGB T [.i .i64,.i .i64,.i .i64,.s,.l 53,.l 9,.l 131] (fun _=>True) elK):=by
  refine fok (env:=envL []) (N:=16) tabT envL_nil mixed Tryz.func182 rfl Tryz.call182 Tryz.ntmps182 ?_
  rintro args ⟨a,wa,_,rfl⟩ hwf
  refine ⟨by simp,?_⟩
  clear hwf
  rw [Tryz.results182]
  repeat' first
    | (refine And.intro ?_ ?_)
    | (intro h;simp only [reduceCtorEq] at h;done)
    | (intro h;rw [h])
    | (intro h)
  all_goals first
    | (show lowEdges _=true;kernel_rfl)|(show logOk _ _=true;kernel_rfl)|exact True.intro|exact Or.inr rfl|exact Or.inl rfl
    | (refine resB ((?_:_=elK a));show _=(iAt a 0 == 1 || (iAt a 0 == 2 || iAt a 0 == 3));simp_all only [Bool.not_eq_true',Bool.not_eq_false',Bool.not_true,Bool.not_false,Bool.or_true,Bool.true_or,Bool.or_false,Bool.false_or,Bool.and_true,Bool.true_and,Bool.and_false,Bool.false_and,Bool.not_not];done)
    | skip
theorem xk47:FOk Tryz.prog T 47 spMax:=by
  refine fok (env:=envL []) (N:=10) tabT envL_nil mixed Tryz.func47 rfl Tryz.call47 Tryz.ntmps47 ?_
  rintro args ⟨x,y,rfl⟩ hwf
  refine ⟨by simp,?_⟩
  clear hwf
  rw [Tryz.results47]
  repeat' first
    | (refine And.intro ?_ ?_)
    | (intro h;simp only [reduceCtorEq] at h;done)
    | (intro h;rw [h])
    | (intro h)
  all_goals first
    | (show lowEdges _=true;kernel_rfl)|(show logOk _ _=true;kernel_rfl)|exact True.intro|exact Or.inr rfl|exact Or.inl rfl
    | exact resI (max_T (by assumption))
    | exact resI (max_F (by assumption))
    | skip
theorem xstep183 (n:Nat) (hn:FOk Tryz.prog T 183 (spGI T [.i .i64,.i .i64,.i .i64,.s,.l 53,.l 9,.l 131] (SmN n) depV)):FOk Tryz.prog T 183 (spGI T [.i .i64,.i .i64,.i .i64,.s,.l 53,.l 9,.l 131] (SmN (n+1)) depV):=by
  refine fok (env:=envL [(183,(spGI T [.i .i64,.i .i64,.i .i64,.s,.l 53,.l 9,.l 131] (SmN n) depV)),(47,spMax)]) (N:=22) tabT (envL_cons hn (envL_cons xk47 envL_nil)) mixed Tryz.func183 rfl Tryz.call183 Tryz.ntmps183 ?_
  rintro args ⟨a,wa,sm,rfl⟩ hwf
  have wA:WfD T (.l 53) (.l (lst a)):=wa.rows (j:=4) rfl
  have hl:=wA.len
  have hd:csD (rowC [.i .i64,.i .i64,.i .i64,.s,.l 53,.l 9,.l 131] a)=a:=csD_rowC wa
  refine ⟨by simp,?_⟩
  clear hwf
  rw [Tryz.results183]
  repeat' first
    | (refine And.intro ?_ ?_)
    | (intro h;simp only [reduceCtorEq] at h;done)
    | (intro h;rw [h])
    | (intro h)
  all_goals first
    | (show lowEdges _=true;kernel_rfl)|(show logOk _ _=true;kernel_rfl)|exact True.intro|exact Or.inr rfl|exact Or.inl rfl
    | skip
  refine awp_loop (Q:=_) [1,3,4] [1] (fun m st=>∃ i:Nat,st=([.ptr 1 1 0,.val false [.i .i64 (maxB i (fun j=>depV (rAt (lst a) j)))],.val false [.i .i64 (i:Int)]],[(1,(rowC [.i .i64,.i .i64,.i .i64,.s,.l 53,.l 9,.l 131] a).map fun c=>.val false [c])])∧i≤(lst a).length∧m=(lst a).length - i) ?_ ?_
  · exact ⟨rfl,(lst a).length,0,rfl,Nat.zero_le _,rfl⟩
  rintro m st ⟨i,rfl,hle,rfl⟩
  repeat' first
    | (refine And.intro ?_ ?_)
    | (intro h;simp only [reduceCtorEq] at h;done)
    | (intro h;rw [h])
    | (intro h)
  all_goals first
    | (show lowEdges _=true;kernel_rfl)|(show logOk _ _=true;kernel_rfl)|exact True.intro|exact Or.inr rfl|exact Or.inl rfl
    | with_reducible exact Int.natCast_nonneg _
    | (have hi:i < (lst a).length:=ltN (by assumption)
       have wr:WfRow T [.i .i64,.i .i64,.i .i64,.s,.l 53,.l 9,.l 131] (rAt (lst a) i):=wA.row rfl (by rw [Int.toNat_natCast];exact hi)
       have hq:csD (rowC [.i .i64,.i .i64,.i .i64,.s,.l 53,.l 9,.l 131] (rAt (lst a) i))=(rAt (lst a) i):=csD_rowC wr
       first
         | with_reducible exact of_decide_eq_true (by with_reducible assumption)
         | exact ⟨_,wr,sm.lst hi,rfl⟩
         | exact ⟨_,_,rfl⟩
         | (show IntKind.i64.min≤depV (csD (rowC [.i .i64,.i .i64,.i .i64,.s,.l 53,.l 9,.l 131] (rAt (lst a) i)));rw [hq];exact (dep_in (SmM.lst sm.2 hi)).1)
         | (show depV (csD (rowC [.i .i64,.i .i64,.i .i64,.s,.l 53,.l 9,.l 131] (rAt (lst a) i)))≤IntKind.i64.max;rw [hq];exact (dep_in (SmM.lst sm.2 hi)).2)
         | (show (i:Int) < _;omega)
         | (show (Int.toNat (i:Int)) < _;rw [Int.toNat_natCast];exact hi)
         | (show Alive _ _;exact rfl)
         | (refine ⟨(lst a).length - (i+1),by omega,i+1,?_,by omega,rfl⟩
            first
              | exact snapIZ (f:=fun y z:Int=>(([.ptr 1 1 0,.val false [.i .i64 y],.val false [.i .i64 z]],[(1,(rowC [.i .i64,.i .i64,.i .i64,.s,.l 53,.l 9,.l 131] a).map fun c=>.val false [c])]):Snap)) ((congrArg (fun z=>max (maxB i (fun j=>depV (rAt (lst a) j))) (depV z)) hq).trans (maxB_succ i _).symm) (wrapN hi hl)
              | (refine snapIZ (f:=fun y z:Int=>(([.ptr 1 1 0,.val false [.i .i64 y],.val false [.i .i64 z]],[(1,(rowC [.i .i64,.i .i64,.i .i64,.s,.l 53,.l 9,.l 131] a).map fun c=>.val false [c])]):Snap)) (b:=IntKind.i64.wrap (i+1)) ?_ (wrapN hi hl)
                 refine (max_gt _ _ _).trans ?_
                 exact (congrArg (fun z=>max (maxB i (fun j=>depV (rAt (lst a) j))) (depV z)) hq).trans (maxB_succ i _).symm)))
    | (have hi:¬ i < (lst a).length:=nltN (by assumption)
       show [CV.i .i64 _]=[CV.i .i64 (depV (csD (rowC [.i .i64,.i .i64,.i .i64,.s,.l 53,.l 9,.l 131] a)))]
       rw [hd]
       exact dep_end sm.2 hle hi)
    | skip
theorem xrec183:∀ n,FOk Tryz.prog T 183 (spGI T [.i .i64,.i .i64,.i .i64,.s,.l 53,.l 9,.l 131] (SmN n) depV):=by
  intro n
  induction n with
  | zero =>
    refine fok (env:=envL []) (N:=22) tabT envL_nil mixed Tryz.func183 rfl Tryz.call183 Tryz.ntmps183 ?_
    rintro args ⟨a,wa,sm,rfl⟩ _
    exact absurd sm.1 (Nat.not_lt_zero _)
  | succ n ih=>exact xstep183 n ih
theorem xk183:FOk Tryz.prog T 183 (spGI T [.i .i64,.i .i64,.i .i64,.s,.l 53,.l 9,.l 131] SmM depV):=FOk.lift xrec183 (fun args ⟨a,wa,sm,h⟩=>⟨wRow a+1,a,wa,⟨Nat.lt_succ_self _,sm⟩,h⟩) (fun n=>rfl)
theorem xstep162 (n:Nat) (hn:FOk Tryz.prog T 162 (spGI T [.i .i64,.i .i64,.i .i64,.s,.l 53,.l 9,.l 131] (SmN n) depV)):FOk Tryz.prog T 162 (spGI T [.i .i64,.i .i64,.i .i64,.s,.l 53,.l 9,.l 131] (SmN (n+1)) depV):=by
  refine fok (env:=envL [(162,(spGI T [.i .i64,.i .i64,.i .i64,.s,.l 53,.l 9,.l 131] (SmN n) depV))]) (N:=20) tabT (envL_cons hn envL_nil) mixed Tryz.func162 rfl Tryz.call162 Tryz.ntmps162 ?_
  rintro args ⟨a,wa,sm,rfl⟩ hwf
  have wA:WfD T (.l 53) (.l (lst a)):=wa.rows (j:=4) rfl
  have hl:=wA.len
  have hd:csD (rowC [.i .i64,.i .i64,.i .i64,.s,.l 53,.l 9,.l 131] a)=a:=csD_rowC wa
  refine ⟨by simp,?_⟩
  clear hwf
  rw [Tryz.results162]
  repeat' first
    | (refine And.intro ?_ ?_)
    | (intro h;simp only [reduceCtorEq] at h;done)
    | (intro h;rw [h])
    | (intro h)
  all_goals first
    | (show lowEdges _=true;kernel_rfl)|(show logOk _ _=true;kernel_rfl)|exact True.intro|exact Or.inr rfl|exact Or.inl rfl
    | skip
  refine awp_loop (Q:=_) [1,3,7,8,9] [1] (fun m st=>∃ i:Nat,st=([.ptr 1 1 0,.val false [.i .i64 (maxB i (fun j=>depV (rAt (lst a) j)))],argS 53 (lst a),.val false [.i .i64 (lst a).length],.val false [.i .i64 (i:Int)]],[(1,(rowC [.i .i64,.i .i64,.i .i64,.s,.l 53,.l 9,.l 131] a).map fun c=>.val false [c])])∧i≤(lst a).length∧m=(lst a).length - i) ?_ ?_
  · exact ⟨rfl,(lst a).length,0,rfl,Nat.zero_le _,rfl⟩
  rintro m st ⟨i,rfl,hle,rfl⟩
  repeat' first
    | (refine And.intro ?_ ?_)
    | (intro h;simp only [reduceCtorEq] at h;done)
    | (intro h;rw [h])
    | (intro h)
  all_goals first
    | (show lowEdges _=true;kernel_rfl)|(show logOk _ _=true;kernel_rfl)|exact True.intro|exact Or.inr rfl|exact Or.inl rfl
    | with_reducible exact Int.natCast_nonneg _
    | (have hi:i < (lst a).length:=ltN (by assumption)
       have wr:WfRow T [.i .i64,.i .i64,.i .i64,.s,.l 53,.l 9,.l 131] (rAt (lst a) i):=wA.row rfl (by rw [Int.toNat_natCast];exact hi)
       have hq:csD (rowC [.i .i64,.i .i64,.i .i64,.s,.l 53,.l 9,.l 131] (rAt (lst a) i))=(rAt (lst a) i):=csD_rowC wr
       first
         | with_reducible exact of_decide_eq_true (by with_reducible assumption)
         | exact ⟨_,wr,sm.lst hi,rfl⟩
         | exact ⟨_,_,rfl⟩
         | (show IntKind.i64.min≤depV (csD (rowC [.i .i64,.i .i64,.i .i64,.s,.l 53,.l 9,.l 131] (rAt (lst a) i)));rw [hq];exact (dep_in (SmM.lst sm.2 hi)).1)
         | (show depV (csD (rowC [.i .i64,.i .i64,.i .i64,.s,.l 53,.l 9,.l 131] (rAt (lst a) i)))≤IntKind.i64.max;rw [hq];exact (dep_in (SmM.lst sm.2 hi)).2)
         | (show (i:Int) < _;omega)
         | (show (Int.toNat (i:Int)) < _;rw [Int.toNat_natCast];exact hi)
         | (show Alive _ _;exact rfl)
         | (refine ⟨(lst a).length - (i+1),by omega,i+1,?_,by omega,rfl⟩
            first
              | exact snapIZ (f:=fun y z:Int=>(([.ptr 1 1 0,.val false [.i .i64 y],argS 53 (lst a),.val false [.i .i64 (lst a).length],.val false [.i .i64 z]],[(1,(rowC [.i .i64,.i .i64,.i .i64,.s,.l 53,.l 9,.l 131] a).map fun c=>.val false [c])]):Snap)) ((congrArg (fun z=>max (maxB i (fun j=>depV (rAt (lst a) j))) (depV z)) hq).trans (maxB_succ i _).symm) (wrapN hi hl)
              | (refine snapIZ (f:=fun y z:Int=>(([.ptr 1 1 0,.val false [.i .i64 y],argS 53 (lst a),.val false [.i .i64 (lst a).length],.val false [.i .i64 z]],[(1,(rowC [.i .i64,.i .i64,.i .i64,.s,.l 53,.l 9,.l 131] a).map fun c=>.val false [c])]):Snap)) (b:=IntKind.i64.wrap (i+1)) ?_ (wrapN hi hl)
                 refine (max_gt _ _ _).trans ?_
                 exact (congrArg (fun z=>max (maxB i (fun j=>depV (rAt (lst a) j))) (depV z)) hq).trans (maxB_succ i _).symm)))
    | (have hi:¬ i < (lst a).length:=nltN (by assumption)
       show [CV.i .i64 _]=[CV.i .i64 (depV (csD (rowC [.i .i64,.i .i64,.i .i64,.s,.l 53,.l 9,.l 131] a)))]
       rw [hd]
       exact dep_end sm.2 hle hi)
    | skip
theorem xrec162:∀ n,FOk Tryz.prog T 162 (spGI T [.i .i64,.i .i64,.i .i64,.s,.l 53,.l 9,.l 131] (SmN n) depV):=by
  intro n
  induction n with
  | zero =>
    refine fok (env:=envL []) (N:=20) tabT envL_nil mixed Tryz.func162 rfl Tryz.call162 Tryz.ntmps162 ?_
    rintro args ⟨a,wa,sm,rfl⟩ _
    exact absurd sm.1 (Nat.not_lt_zero _)
  | succ n ih=>exact xstep162 n ih
theorem xk162:FOk Tryz.prog T 162 (spGI T [.i .i64,.i .i64,.i .i64,.s,.l 53,.l 9,.l 131] SmM depV):=FOk.lift xrec162 (fun args ⟨a,wa,sm,h⟩=>⟨wRow a+1,a,wa,⟨Nat.lt_succ_self _,sm⟩,h⟩) (fun n=>rfl)
theorem xstep149 (n:Nat) (hn:FOk Tryz.prog T 104 (spGB T [.i .i64,.i .i64,.i .i64,.s,.l 53,.l 9,.l 131] (SmN n) okV)):FOk Tryz.prog T 149 (spGB T [.i .i64,.i .i64,.i .i64,.s,.l 53,.l 9,.l 131] (SmN (n+1)) listV):=by
  refine fok (env:=envL [(182,(spGB T [.i .i64,.i .i64,.i .i64,.s,.l 53,.l 9,.l 131] (fun _=>True) elK)),(104,(spGB T [.i .i64,.i .i64,.i .i64,.s,.l 53,.l 9,.l 131] (SmN n) okV)),(183,(spGI T [.i .i64,.i .i64,.i .i64,.s,.l 53,.l 9,.l 131] SmM depV))]) (N:=36) tabT (envL_cons xk182 (envL_cons hn (envL_cons xk183 envL_nil))) mixed Tryz.func149 rfl Tryz.call149 Tryz.ntmps149 ?_
  rintro args ⟨a,wa,sm,rfl⟩ hwf
  have wA:WfD T (.l 53) (.l (lst a)):=wa.rows (j:=4) rfl
  have hl:=wA.len
  have hd:csD (rowC [.i .i64,.i .i64,.i .i64,.s,.l 53,.l 9,.l 131] a)=a:=csD_rowC wa
  refine ⟨by simp,?_⟩
  clear hwf
  rw [Tryz.results149]
  repeat' first
    | (refine And.intro ?_ ?_)
    | (intro h;simp only [reduceCtorEq] at h;done)
    | (intro h;rw [h])
    | (intro h)
  all_goals first
    | (show lowEdges _=true;kernel_rfl)|(show logOk _ _=true;kernel_rfl)|exact True.intro|exact Or.inr rfl|exact Or.inl rfl
    | skip
  refine awp_loop (Q:=_) [1,3] [1] (fun m st=>∃ i:Nat,st=([.ptr 1 1 0,.val false [.i .i64 (i:Int)]],[(1,(rowC [.i .i64,.i .i64,.i .i64,.s,.l 53,.l 9,.l 131] a).map fun c=>.val false [c])])∧(∀ j,j < i→(elK (rAt (lst a) j) && okV (rAt (lst a) j))=true)∧i≤(lst a).length∧m=(lst a).length - i) ?_ ?_
  · exact ⟨rfl,(lst a).length,0,rfl,nolt _,Nat.zero_le _,rfl⟩
  rintro m st ⟨i,rfl,hI,hle,rfl⟩
  repeat' first
    | (refine And.intro ?_ ?_)
    | (intro h;simp only [reduceCtorEq] at h;done)
    | (intro h;rw [h])
    | (intro h)
  all_goals first
    | (show lowEdges _=true;kernel_rfl)|(show logOk _ _=true;kernel_rfl)|exact True.intro|exact Or.inr rfl|exact Or.inl rfl
    | with_reducible exact Int.natCast_nonneg _
    | (have hi:i < (lst a).length:=ltN (by assumption)
       have wr:WfRow T [.i .i64,.i .i64,.i .i64,.s,.l 53,.l 9,.l 131] (rAt (lst a) i):=wA.row rfl (by rw [Int.toNat_natCast];exact hi)
       have hq:csD (rowC [.i .i64,.i .i64,.i .i64,.s,.l 53,.l 9,.l 131] (rAt (lst a) i))=(rAt (lst a) i):=csD_rowC wr
       first
         | with_reducible exact of_decide_eq_true (by with_reducible assumption)
         | exact ⟨_,wr,trivial,rfl⟩
         | exact ⟨_,wr,sm.lst hi,rfl⟩
         | (show (i:Int) < _;omega)
         | (show (Int.toNat (i:Int)) < _;rw [Int.toNat_natCast];exact hi)
         | (refine resB ?_
            show false=listV (csD (rowC [.i .i64,.i .i64,.i .i64,.s,.l 53,.l 9,.l 131] a))
            rw [hd]
            unfold listV
            rw [allB_stop (P:=fun j=>elK (rAt (lst a) j) && okV (rAt (lst a) j)) hi (el_no (by rw [← hq];assumption))]
            rfl)
         | (refine resB ?_
            show false=listV (csD (rowC [.i .i64,.i .i64,.i .i64,.s,.l 53,.l 9,.l 131] a))
            rw [hd]
            unfold listV
            rw [allB_stop (P:=fun j=>elK (rAt (lst a) j) && okV (rAt (lst a) j)) hi (el_no2 (by rw [← hq];assumption))]
            rfl)
         | (show Alive _ _;exact rfl)
         | (refine ⟨(lst a).length - (i+1),by omega,i+1,?_,all_succ hI (P:=fun j=>elK (rAt (lst a) j) && okV (rAt (lst a) j)) ?_,by omega,rfl⟩
            · exact congrArg (fun z:Int=>(([.ptr 1 1 0,.val false [.i .i64 z]],[(1,(rowC [.i .i64,.i .i64,.i .i64,.s,.l 53,.l 9,.l 131] a).map fun c=>.val false [c])]):Snap)) (wrapN hi hl)
            · exact el_yes (by rw [← hq];assumption) (by rw [← hq];assumption)))
    | (have hi:¬ i < (lst a).length:=nltN (by assumption)
       have hall:allB (lst a).length (fun j=>elK (rAt (lst a) j) && okV (rAt (lst a) j))=true:=allB_end hI hi
       first
         | exact ⟨_,wa,sm.2,rfl⟩
         | (refine resB ?_
            show _=listV (csD (rowC [.i .i64,.i .i64,.i .i64,.s,.l 53,.l 9,.l 131] a))
            rw [hd]
            unfold listV
            rw [hall,show decide (((lst a).length:Int)≤8)=true by assumption]
            show decide (depV (csD (rowC [.i .i64,.i .i64,.i .i64,.s,.l 53,.l 9,.l 131] a))≤3)=decide (depV a≤3)
            rw [hd])
         | (refine resB ?_
            show false=listV (csD (rowC [.i .i64,.i .i64,.i .i64,.s,.l 53,.l 9,.l 131] a))
            rw [hd]
            unfold listV
            rw [hall,show decide (((lst a).length:Int)≤8)=false by assumption]
            rfl))
    | skip
theorem xstep104 (n:Nat) (hl:FOk Tryz.prog T 149 (spGB T [.i .i64,.i .i64,.i .i64,.s,.l 53,.l 9,.l 131] (SmN (n+1)) listV)):FOk Tryz.prog T 104 (spGB T [.i .i64,.i .i64,.i .i64,.s,.l 53,.l 9,.l 131] (SmN (n+1)) okV):=by
  refine fok (env:=envL [(147,spNum),(148,(spTB okTxt)),(149,(spGB T [.i .i64,.i .i64,.i .i64,.s,.l 53,.l 9,.l 131] (SmN (n+1)) listV)),(150,(spGB T [.i .i64,.i .i64,.i .i64,.s,.l 53,.l 9,.l 131] (fun _=>True) tblV)),(49,spIn)]) (N:=95) tabT (envL_cons ok147 (envL_cons xk148 (envL_cons hl (envL_cons xk150 (envL_cons ok49 envL_nil))))) mixed Tryz.func104 rfl Tryz.call104 Tryz.ntmps104 ?_
  rintro args ⟨a,wa,sm,rfl⟩ hwf
  have hd:csD (rowC [.i .i64,.i .i64,.i .i64,.s,.l 53,.l 9,.l 131] a)=a:=csD_rowC wa
  have wr:=wa
  refine ⟨by simp,?_⟩
  clear hwf
  rw [Tryz.results104]
  obtain ⟨d0,r0,rfl,w0,wa⟩:=wa.cons'
  obtain ⟨d1,r1,rfl,w1,wa⟩:=wa.cons'
  obtain ⟨d2,r2,rfl,w2,wa⟩:=wa.cons'
  obtain ⟨d3,r3,rfl,w3,wa⟩:=wa.cons'
  obtain ⟨d4,r4,rfl,w4,wa⟩:=wa.cons'
  obtain ⟨d5,r5,rfl,w5,wa⟩:=wa.cons'
  obtain ⟨d6,r6,rfl,w6,wa⟩:=wa.cons'
  obtain rfl:=wa.nil'
  obtain ⟨n0,rfl,_⟩:=w0.int'
  obtain ⟨n1,rfl,_⟩:=w1.int'
  obtain ⟨n2,rfl,_⟩:=w2.int'
  obtain ⟨s3,rfl,_⟩:=w3.str'
  obtain ⟨l4,rfl,_⟩:=w4.sl'
  obtain ⟨l5,rfl,_⟩:=w5.sl'
  obtain ⟨l6,rfl,_⟩:=w6.sl'
  have b56:=w56 sm.2
  clear w0 w1 w2 w3 w4 w5 w6
  by_cases e1:n0=1
  · subst e1
    repeat' first
      | (refine And.intro ?_ ?_)
      | (intro h;cases h)
      | (intro h;rw [h])
      | (intro h)
    all_goals first
      | (show lowEdges _=true;kernel_rfl)|(show logOk _ _=true;kernel_rfl)|exact True.intro|exact Or.inr rfl|exact Or.inl rfl
      | exact ⟨_,rfl⟩
      | exact ⟨_,_,_,rfl⟩
      | exact resB (ov1 rfl (by assumption))
      | exact resB (ov2 rfl b56 (by assumption))
      | exact resB (ov3 rfl (by assumption))
      | exact resB (ov4 rfl (by assumption))
      | exact resB (okV_of (pre1 (oq1 (by assumption)) (oq2 b56 (by assumption)) (oq3 (by assumption)) (oq4 (by assumption))) (rfl))
      | skip
  by_cases e2:n0=2
  · subst e2
    repeat' first
      | (refine And.intro ?_ ?_)
      | (intro h;cases h)
      | (intro h;rw [h])
      | (intro h)
    all_goals first
      | (show lowEdges _=true;kernel_rfl)|(show logOk _ _=true;kernel_rfl)|exact True.intro|exact Or.inr rfl|exact Or.inl rfl
      | exact ⟨_,rfl⟩
      | exact ⟨_,_,_,rfl⟩
      | exact resB (ov1 rfl (by assumption))
      | exact resB (ov2 rfl b56 (by assumption))
      | exact resB (ov4 rfl (by assumption))
      | exact resB (okV_n (k:=2) (by decide) (by assumption))
      | exact resB (okV_of (pre2 (oq1 (by assumption)) (oq2 b56 (by assumption)) (oq4 (by assumption))) (k2y (by assumption)))
      | skip
  by_cases e3:n0=3
  · subst e3
    repeat' first
      | (refine And.intro ?_ ?_)
      | (intro h;cases h)
      | (intro h;rw [h])
      | (intro h)
    all_goals first
      | (show lowEdges _=true;kernel_rfl)|(show logOk _ _=true;kernel_rfl)|exact True.intro|exact Or.inr rfl|exact Or.inl rfl
      | exact ⟨_,rfl⟩
      | exact ⟨_,_,_,rfl⟩
      | exact ⟨_,wr,sm,rfl⟩
      | (refine resB (okV_of (pre3 (oq2 b56 (by assumption)) (oq3 (by assumption)) (oq4 (by assumption))) (k3y (by assumption) ?_));exact congrArg listV hd)
      | exact resB (ov2 rfl b56 (by assumption))
      | exact resB (ov3 rfl (by assumption))
      | exact resB (ov4 rfl (by assumption))
      | exact resB (okV_n (k:=3) (by decide) (by assumption))
      | skip
  by_cases e4:n0=4
  · subst e4
    repeat' first
      | (refine And.intro ?_ ?_)
      | (intro h;cases h)
      | (intro h;rw [h])
      | (intro h)
    all_goals first
      | (show lowEdges _=true;kernel_rfl)|(show logOk _ _=true;kernel_rfl)|exact True.intro|exact Or.inr rfl|exact Or.inl rfl
      | exact ⟨_,rfl⟩
      | exact ⟨_,_,_,rfl⟩
      | exact resB (ov1 rfl (by assumption))
      | exact resB (ov2 rfl b56 (by assumption))
      | exact resB (ov3 rfl (by assumption))
      | exact resB (okV_of (pre4 (oq1 (by assumption)) (oq2 b56 (by assumption)) (oq3 (by assumption))) (k4y (by assumption)))
      | exact resB (okV_of (pre4 (oq1 (by assumption)) (oq2 b56 (by assumption)) (oq3 (by assumption))) (k4n (by assumption)))
      | skip
  by_cases e5:n0=5
  · subst e5
    repeat' first
      | (refine And.intro ?_ ?_)
      | (intro h;cases h)
      | (intro h;rw [h])
      | (intro h)
    all_goals first
      | (show lowEdges _=true;kernel_rfl)|(show logOk _ _=true;kernel_rfl)|exact True.intro|exact Or.inr rfl|exact Or.inl rfl
      | exact ⟨_,rfl⟩
      | exact ⟨_,_,_,rfl⟩
      | exact ⟨_,wr,trivial,rfl⟩
      | (refine resB (okV_of (pre5 (oq1 (by assumption)) (oq3 (by assumption)) (oq4 (by assumption))) (k5y (by assumption) ?_));exact congrArg tblV hd)
      | exact resB (ov1 rfl (by assumption))
      | exact resB (ov3 rfl (by assumption))
      | exact resB (ov4 rfl (by assumption))
      | exact resB (okV_n (k:=5) (by decide) (by assumption))
      | skip
  by_cases e6:n0=6
  · subst e6
    repeat' first
      | (refine And.intro ?_ ?_)
      | (intro h;cases h)
      | (intro h;rw [h])
      | (intro h)
    all_goals first
      | (show lowEdges _=true;kernel_rfl)|(show logOk _ _=true;kernel_rfl)|exact True.intro|exact Or.inr rfl|exact Or.inl rfl
      | exact ⟨_,rfl⟩
      | exact ⟨_,_,_,rfl⟩
      | exact resB (ov1 rfl (by assumption))
      | exact resB (ov2 rfl b56 (by assumption))
      | exact resB (ov3 rfl (by assumption))
      | exact resB (ov4 rfl (by assumption))
      | exact resB (okV_of (pre6 (oq1 (by assumption)) (oq2 b56 (by assumption)) (oq3 (by assumption)) (oq4 (by assumption))) (rfl))
      | skip
  have k1:(n0 == 1)=false:=by simpa using e1
  have k2:(n0 == 2)=false:=by simpa using e2
  have k3:(n0 == 3)=false:=by simpa using e3
  have k4:(n0 == 4)=false:=by simpa using e4
  have k5:(n0 == 5)=false:=by simpa using e5
  have k6:(n0 == 6)=false:=by simpa using e6
  have m2:(n0 != 2)=true:=by simpa [bne] using e2
  have m3:(n0 != 3)=true:=by simpa [bne] using e3
  have m4:(n0 != 4)=true:=by simpa [bne] using e4
  have m5:(n0 != 5)=true:=by simpa [bne] using e5
  repeat' first
    | (refine And.intro ?_ ?_)
    | (intro h;cases h)
    | (intro h;exact absurd (h.symm.trans k1) Bool.noConfusion)
    | (intro h;exact absurd (h.symm.trans k2) Bool.noConfusion)
    | (intro h;exact absurd (h.symm.trans k3) Bool.noConfusion)
    | (intro h;exact absurd (h.symm.trans k4) Bool.noConfusion)
    | (intro h;exact absurd (h.symm.trans k5) Bool.noConfusion)
    | (intro h;exact absurd (h.symm.trans k6) Bool.noConfusion)
    | (intro h;exact absurd (h.symm.trans m2) Bool.noConfusion)
    | (intro h;exact absurd (h.symm.trans m3) Bool.noConfusion)
    | (intro h;exact absurd (h.symm.trans m4) Bool.noConfusion)
    | (intro h;exact absurd (h.symm.trans m5) Bool.noConfusion)
    | (intro h;rw [h])
    | (intro h)
  all_goals first
    | (show lowEdges _=true;kernel_rfl)|(show logOk _ _=true;kernel_rfl)|exact True.intro|exact Or.inr rfl|exact Or.inl rfl
    | exact resB (okV_other ⟨e1,e2,e3,e4,e5,e6⟩)
theorem xboth104:∀ n,FOk Tryz.prog T 104 (spGB T [.i .i64,.i .i64,.i .i64,.s,.l 53,.l 9,.l 131] (SmN n) okV)∧FOk Tryz.prog T 149 (spGB T [.i .i64,.i .i64,.i .i64,.s,.l 53,.l 9,.l 131] (SmN n) listV):=by
  intro n
  induction n with
  | zero =>
    refine ⟨?_,?_⟩
    · refine fok (env:=envL []) (N:=95) tabT envL_nil mixed Tryz.func104 rfl Tryz.call104 Tryz.ntmps104 ?_
      rintro args ⟨a,wa,sm,rfl⟩ _
      exact absurd sm.1 (Nat.not_lt_zero _)
    · refine fok (env:=envL []) (N:=36) tabT envL_nil mixed Tryz.func149 rfl Tryz.call149 Tryz.ntmps149 ?_
      rintro args ⟨a,wa,sm,rfl⟩ _
      exact absurd sm.1 (Nat.not_lt_zero _)
  | succ n ih =>
    have h:=xstep149 n ih.1
    exact ⟨xstep104 n h,h⟩
theorem xk104:FOk Tryz.prog T 104 (spGB T [.i .i64,.i .i64,.i .i64,.s,.l 53,.l 9,.l 131] SmM okV):=FOk.lift (fun n=>(xboth104 n).1) (fun args ⟨a,wa,sm,h⟩=>⟨wRow a+1,a,wa,⟨Nat.lt_succ_self _,sm⟩,h⟩) (fun n=>rfl)
theorem xstep112 (n:Nat) (hn:FOk Tryz.prog T 112 (spGB T [.i .i64,.i .i64,.i .i64,.s,.l 53,.l 9,.l 131] (SmN n) okV)):FOk Tryz.prog T 112 (spGB T [.i .i64,.i .i64,.i .i64,.s,.l 53,.l 9,.l 131] (SmN (n+1)) okV):=by
  refine fok (env:=envL [(159,spNum),(160,(spTB okTxt)),(50,spIn),(161,(spGB T [.i .i64,.i .i64,.i .i64,.s,.l 53,.l 9,.l 131] (fun _=>True) tblV)),(112,(spGB T [.i .i64,.i .i64,.i .i64,.s,.l 53,.l 9,.l 131] (SmN n) okV)),(162,(spGI T [.i .i64,.i .i64,.i .i64,.s,.l 53,.l 9,.l 131] SmM depV))]) (N:=185) tabT (envL_cons ok159 (envL_cons xk160 (envL_cons ok50 (envL_cons xk161 (envL_cons hn (envL_cons xk162 envL_nil)))))) mixed Tryz.func112 rfl Tryz.call112 Tryz.ntmps112 ?_
  rintro args ⟨a,wa,sm,rfl⟩ hwf
  have hd:csD (rowC [.i .i64,.i .i64,.i .i64,.s,.l 53,.l 9,.l 131] a)=a:=csD_rowC wa
  have wr:=wa
  refine ⟨by simp,?_⟩
  clear hwf
  rw [Tryz.results112]
  obtain ⟨d0,r0,rfl,w0,wa⟩:=wa.cons'
  obtain ⟨d1,r1,rfl,w1,wa⟩:=wa.cons'
  obtain ⟨d2,r2,rfl,w2,wa⟩:=wa.cons'
  obtain ⟨d3,r3,rfl,w3,wa⟩:=wa.cons'
  obtain ⟨d4,r4,rfl,w4,wa⟩:=wa.cons'
  obtain ⟨d5,r5,rfl,w5,wa⟩:=wa.cons'
  obtain ⟨d6,r6,rfl,w6,wa⟩:=wa.cons'
  obtain rfl:=wa.nil'
  obtain ⟨n0,rfl,_⟩:=w0.int'
  obtain ⟨n1,rfl,_⟩:=w1.int'
  obtain ⟨n2,rfl,_⟩:=w2.int'
  obtain ⟨s3,rfl,_⟩:=w3.str'
  obtain ⟨l4,rfl,_⟩:=w4.sl'
  obtain ⟨l5,rfl,_⟩:=w5.sl'
  obtain ⟨l6,rfl,_⟩:=w6.sl'
  have b56:=w56 sm.2
  clear w0 w1 w2 w3 w4 w5 w6
  by_cases e1:n0=1
  · subst e1
    repeat' first
      | (refine And.intro ?_ ?_)
      | (intro h;cases h)
      | (intro h;rw [h])
      | (intro h)
    all_goals first
      | (show lowEdges _=true;kernel_rfl)|(show logOk _ _=true;kernel_rfl)|exact True.intro|exact Or.inr rfl|exact Or.inl rfl
      | exact ⟨_,rfl⟩
      | exact ⟨_,_,_,rfl⟩
      | exact resB (ov1' rfl (by assumption))
      | exact resB (ov2' rfl (by assumption))
      | exact resB (ov2'' rfl (by assumption))
      | exact resB (ov3' rfl (by assumption))
      | exact resB (ov4' rfl (by assumption))
      | exact resB (okV_of (pre1 (oq1' (by assumption)) (oq2' (by assumption) (by assumption)) (oq3' (by assumption)) (by assumption)) (rfl))
      | skip
  by_cases e2:n0=2
  · subst e2
    repeat' first
      | (refine And.intro ?_ ?_)
      | (intro h;cases h)
      | (intro h;rw [h])
      | (intro h)
    all_goals first
      | (show lowEdges _=true;kernel_rfl)|(show logOk _ _=true;kernel_rfl)|exact True.intro|exact Or.inr rfl|exact Or.inl rfl
      | exact ⟨_,rfl⟩
      | exact ⟨_,_,_,rfl⟩
      | exact resB (ov1' rfl (by assumption))
      | exact resB (ov2' rfl (by assumption))
      | exact resB (ov2'' rfl (by assumption))
      | exact resB (ov4' rfl (by assumption))
      | exact resB (okV_n (k:=2) (by decide) (by assumption))
      | exact resB (okV_of (pre2 (oq1' (by assumption)) (oq2' (by assumption) (by assumption)) (by assumption)) (k2y (by assumption)))
      | skip
  by_cases e4:n0=4
  · subst e4
    repeat' first
      | (refine And.intro ?_ ?_)
      | (intro h;cases h)
      | (intro h;rw [h])
      | (intro h)
    all_goals first
      | (show lowEdges _=true;kernel_rfl)|(show logOk _ _=true;kernel_rfl)|exact True.intro|exact Or.inr rfl|exact Or.inl rfl
      | exact ⟨_,rfl⟩
      | exact ⟨_,_,_,rfl⟩
      | exact resB (ov1' rfl (by assumption))
      | exact resB (ov2' rfl (by assumption))
      | exact resB (ov2'' rfl (by assumption))
      | exact resB (ov3' rfl (by assumption))
      | exact resB (okV_of (pre4 (oq1' (by assumption)) (oq2' (by assumption) (by assumption)) (oq3' (by assumption))) (k4y (by assumption)))
      | exact resB (okV_of (pre4 (oq1' (by assumption)) (oq2' (by assumption) (by assumption)) (oq3' (by assumption))) (k4n (by assumption)))
      | skip
  by_cases e5:n0=5
  · subst e5
    repeat' first
      | (refine And.intro ?_ ?_)
      | (intro h;cases h)
      | (intro h;rw [h])
      | (intro h)
    all_goals first
      | (show lowEdges _=true;kernel_rfl)|(show logOk _ _=true;kernel_rfl)|exact True.intro|exact Or.inr rfl|exact Or.inl rfl
      | exact ⟨_,rfl⟩
      | exact ⟨_,_,_,rfl⟩
      | exact ⟨_,wr,trivial,rfl⟩
      | (refine resB (okV_of (pre5 (oq1' (by assumption)) (oq3' (by assumption)) (by assumption)) (k5y (by assumption) ?_));exact congrArg tblV hd)
      | exact resB (ov1' rfl (by assumption))
      | exact resB (ov3' rfl (by assumption))
      | exact resB (ov4' rfl (by assumption))
      | exact resB (okV_n (k:=5) (by decide) (by assumption))
      | skip
  by_cases e6:n0=6
  · subst e6
    repeat' first
      | (refine And.intro ?_ ?_)
      | (intro h;cases h)
      | (intro h;rw [h])
      | (intro h)
    all_goals first
      | (show lowEdges _=true;kernel_rfl)|(show logOk _ _=true;kernel_rfl)|exact True.intro|exact Or.inr rfl|exact Or.inl rfl
      | exact ⟨_,rfl⟩
      | exact ⟨_,_,_,rfl⟩
      | exact resB (ov1' rfl (by assumption))
      | exact resB (ov2' rfl (by assumption))
      | exact resB (ov2'' rfl (by assumption))
      | exact resB (ov3' rfl (by assumption))
      | exact resB (ov4' rfl (by assumption))
      | exact resB (okV_of (pre6 (oq1' (by assumption)) (oq2' (by assumption) (by assumption)) (oq3' (by assumption)) (by assumption)) (rfl))
      | skip
  by_cases e3:n0=3
  · subst e3
    have wA:WfD T (.l 53) (.l l4):=wr.rows (j:=4) rfl
    have hl:=wA.len
    repeat' first
      | (refine And.intro ?_ ?_)
      | (intro h;cases h)
      | (intro h;rw [h])
      | (intro h)
    all_goals first
      | (show lowEdges _=true;kernel_rfl)|(show logOk _ _=true;kernel_rfl)|exact True.intro|exact Or.inr rfl|exact Or.inl rfl
      | skip
    all_goals (
      refine awp_loop (Q:=_) [1,124,125,126] [1] (fun m st=>∃ i:Nat,st=([.ptr 1 1 0,argS 53 l4,.val false [.i .i64 l4.length],.val false [.i .i64 (i:Int)]],[(1,(rowC [.i .i64,.i .i64,.i .i64,.s,.l 53,.l 9,.l 131] [.i 3,.i n1,.i n2,.s s3,.l l4,.l l5,.l l6]).map fun c=>.val false [c])])∧(∀ j,j < i→(elK (rAt l4 j) && okV (rAt l4 j))=true)∧i≤l4.length∧m=l4.length - i) ?_ ?_
      · exact ⟨rfl,l4.length,0,rfl,nolt _,Nat.zero_le _,rfl⟩
      rintro m st ⟨i,rfl,hI,hle,rfl⟩
      repeat' first
        | (refine And.intro ?_ ?_)
        | (intro h;simp only [reduceCtorEq] at h;done)
        | (intro h;rw [h])
        | (intro h)
      all_goals first
        | (show lowEdges _=true;kernel_rfl)|(show logOk _ _=true;kernel_rfl)|exact True.intro|exact Or.inr rfl|exact Or.inl rfl
        | with_reducible exact Int.natCast_nonneg _
        | (have hi:i < l4.length:=ltN (by assumption)
           have we:WfRow T [.i .i64,.i .i64,.i .i64,.s,.l 53,.l 9,.l 131] (rAt l4 i):=wA.row rfl (by rw [Int.toNat_natCast];exact hi)
           have hq:csD (rowC [.i .i64,.i .i64,.i .i64,.s,.l 53,.l 9,.l 131] (rAt l4 i))=(rAt l4 i):=csD_rowC we
           first
             | with_reducible exact of_decide_eq_true (by with_reducible assumption)
             | exact ⟨_,we,sm.lst (i:=i) hi,rfl⟩
             | (show (i:Int) < _;omega)
             | (show (Int.toNat (i:Int)) < _;rw [Int.toNat_natCast];exact hi)
             | exact resB (lv3_no hi (elK_no (by assumption) (by assumption) (by assumption)))
             | (have hz:(!okV (rAt l4 i))=true:=(by rw [← hq];assumption)
                exact resB (lv3_no hi (el_no2 hz)))
             | (show Alive _ _;exact rfl)
             | (refine ⟨l4.length - (i+1),by omega,i+1,?_,all_succ hI (P:=fun j=>elK (rAt l4 j) && okV (rAt l4 j)) ?_,by omega,rfl⟩
                · exact congrArg (fun z:Int=>(([.ptr 1 1 0,argS 53 l4,.val false [.i .i64 l4.length],.val false [.i .i64 z]],[(1,(rowC [.i .i64,.i .i64,.i .i64,.s,.l 53,.l 9,.l 131] [.i 3,.i n1,.i n2,.s s3,.l l4,.l l5,.l l6]).map fun c=>.val false [c])]):Snap)) (wrapN hi hl)
                · first
                    | exact el_yes2 (elK_y1 (by assumption)) (by rw [← hq];assumption)
                    | exact el_yes2 (elK_y2 (by assumption)) (by rw [← hq];assumption)
                    | exact el_yes2 (elK_y3 (by assumption)) (by rw [← hq];assumption)))
        | (have hi:¬ i < l4.length:=nltN (by assumption)
           first
             | exact ⟨_,wr,sm.2,rfl⟩
             | exact resB (okV_n (k:=3) (by decide) (by assumption))
             | exact resB (ov4' rfl (by assumption))
             | exact resB (ov3' rfl (by assumption))
             | exact resB (ov2' rfl (by assumption))
             | exact resB (ov2'' rfl (by assumption))
             | exact resB (okV_of (pre3 (oq2' (by assumption) (by assumption)) (oq3' (by assumption)) (by assumption)) (k3y (by assumption) (lv_len (by assumption))))
             | (refine resB (okV_of (pre3 (oq2' (by assumption) (by assumption)) (oq3' (by assumption)) (by assumption)) (k3y (by assumption) ?_))
                refine (?_:_=_).trans (lv_dep hI hi (by assumption))
                exact congrArg (fun x=>decide (depV x≤3)) hd))
        | skip)
  have k1:(n0 == 1)=false:=by simpa using e1
  have k2:(n0 == 2)=false:=by simpa using e2
  have k3:(n0 == 3)=false:=by simpa using e3
  have k4:(n0 == 4)=false:=by simpa using e4
  have k5:(n0 == 5)=false:=by simpa using e5
  have k6:(n0 == 6)=false:=by simpa using e6
  have m2:(n0 != 2)=true:=by simpa [bne] using e2
  have m3:(n0 != 3)=true:=by simpa [bne] using e3
  have m4:(n0 != 4)=true:=by simpa [bne] using e4
  have m5:(n0 != 5)=true:=by simpa [bne] using e5
  repeat' first
    | (refine And.intro ?_ ?_)
    | (intro h;cases h)
    | (intro h;exact absurd (h.symm.trans k1) Bool.noConfusion)
    | (intro h;exact absurd (h.symm.trans k2) Bool.noConfusion)
    | (intro h;exact absurd (h.symm.trans k3) Bool.noConfusion)
    | (intro h;exact absurd (h.symm.trans k4) Bool.noConfusion)
    | (intro h;exact absurd (h.symm.trans k5) Bool.noConfusion)
    | (intro h;exact absurd (h.symm.trans k6) Bool.noConfusion)
    | (intro h;exact absurd (h.symm.trans m2) Bool.noConfusion)
    | (intro h;exact absurd (h.symm.trans m3) Bool.noConfusion)
    | (intro h;exact absurd (h.symm.trans m4) Bool.noConfusion)
    | (intro h;exact absurd (h.symm.trans m5) Bool.noConfusion)
    | (intro h;rw [h])
    | (intro h)
  all_goals first
    | (show lowEdges _=true;kernel_rfl)|(show logOk _ _=true;kernel_rfl)|exact True.intro|exact Or.inr rfl|exact Or.inl rfl
    | exact resB (okV_other ⟨e1,e2,e3,e4,e5,e6⟩)
theorem xrec112:∀ n,FOk Tryz.prog T 112 (spGB T [.i .i64,.i .i64,.i .i64,.s,.l 53,.l 9,.l 131] (SmN n) okV):=by
  intro n
  induction n with
  | zero =>
    refine fok (env:=envL []) (N:=185) tabT envL_nil mixed Tryz.func112 rfl Tryz.call112 Tryz.ntmps112 ?_
    rintro args ⟨a,wa,sm,rfl⟩ _
    exact absurd sm.1 (Nat.not_lt_zero _)
  | succ n ih=>exact xstep112 n ih
theorem xk112:FOk Tryz.prog T 112 (spGB T [.i .i64,.i .i64,.i .i64,.s,.l 53,.l 9,.l 131] SmM okV):=FOk.lift xrec112 (fun args ⟨a,wa,sm,h⟩=>⟨wRow a+1,a,wa,⟨Nat.lt_succ_self _,sm⟩,h⟩) (fun n=>rfl)
end Go.Proofs.YtkpnfbdoaljkpaaGreatDoor.Ab
