/- Names, columns, rows, exactly: printed by a program of this -/
import Derived.Test.YtkpnfbdoaljkpaaGreatDoorDYs
import Derived.Test.YtkpnfbdoaljkpaaGreatDoorDVb
namespace Go.Proofs.YtkpnfbdoaljkpaaGreatDoor.Ab
open Go.RowKit
set_option linter.unusedVariables false
set_option linter.unusedSimpArgs false
set_option maxRecDepth 100000
set_option maxHeartbeats 2000000
theorem xk148:FOk Tryz.prog T 148 (spTB okTxt):=by
  refine fok (env:=envL []) (N:=29) tabT envL_nil mixed Tryz.func148 rfl Tryz.call148 Tryz.ntmps148 ?_
  rintro args ⟨s,rfl⟩ hwf
  have hl:s.size≤maxLen:=arg0 hwf (List.mem_singleton_self _)
  refine ⟨by simp,?_⟩
  clear hwf
  rw [Tryz.results148]
  repeat' first
    | (refine And.intro ?_ ?_)
    | (intro h;simp only [reduceCtorEq] at h;done)
    | (intro h;rw [h])
    | (intro h)
  all_goals first
    | (show lowEdges _=true;kernel_rfl)|(show logOk _ _=true;kernel_rfl)|exact True.intro|exact Or.inr rfl|exact Or.inl rfl
    | skip
  refine awp_loop (Q:=_) [0,3] [] (fun n st=>∃ i:Nat,st=([sArg s,.val false [.i .i64 (i:Int)]],[])∧(∀ j,j < i→txtByte (bAt s j)=true)∧i≤s.size∧n=s.size - i) ?_ ?_
  · exact ⟨rfl,s.size,0,rfl,nolt _,Nat.zero_le _,rfl⟩
  rintro n st ⟨i,rfl,hI,hle,rfl⟩
  repeat' first
    | (refine And.intro ?_ ?_)
    | (intro h;simp only [reduceCtorEq] at h;done)
    | (intro h;rw [h])
    | (intro h)
  all_goals first
    | (show lowEdges _=true;kernel_rfl)|(show logOk _ _=true;kernel_rfl)|exact True.intro|exact Or.inr rfl|exact Or.inl rfl
    | with_reducible exact Int.natCast_nonneg _
    | (have hi:i < s.size:=ltN (by with_reducible assumption)
       first
         | with_reducible exact of_decide_eq_true (by with_reducible assumption)
         | (show (Int.toNat (i:Int)) < _;rw [Int.toNat_natCast];exact hi)
         | (show (i:Int) < _;omega)
           | exact ⟨_,_,_,rfl⟩
           | (unfold okTxt;refine resBs (i:=i) (P:=fun j=>txtByte (bAt s j)) hi ?_;first|(show _=_;simp_all only [txtByte,Bool.not_eq_true',Bool.not_eq_false',Bool.not_true,Bool.not_false,Bool.or_true,Bool.true_or,Bool.or_false,Bool.false_or,Bool.and_true,Bool.true_and,Bool.and_false,Bool.false_and,Bool.not_not];done)|skip;done)
           | (unfold okTxt;exact resBe (P:=fun j=>txtByte (bAt s j)) hI hi rfl)
           | (refine ⟨s.size - (i+1),by omega,i+1,?_,all_succ hI (P:=fun j=>txtByte (bAt s j)) ?_,by omega,rfl⟩
              · exact congrArg (fun z:Int=>(([sArg s,.val false [.i .i64 z]],[]):Snap)) (wrapN hi hl)
              · first|(show _=_;simp_all only [txtByte,Bool.not_eq_true',Bool.not_eq_false',Bool.not_true,Bool.not_false,Bool.or_true,Bool.true_or,Bool.or_false,Bool.false_or,Bool.and_true,Bool.true_and,Bool.and_false,Bool.false_and,Bool.not_not];done)|skip;done))
    | (have hi:¬ i < s.size:=nltN (by with_reducible assumption)
       first
           | exact ⟨_,_,_,rfl⟩
           | (unfold okTxt;refine resBs (i:=i) (P:=fun j=>txtByte (bAt s j)) hi ?_;first|(show _=_;simp_all only [txtByte,Bool.not_eq_true',Bool.not_eq_false',Bool.not_true,Bool.not_false,Bool.or_true,Bool.true_or,Bool.or_false,Bool.false_or,Bool.and_true,Bool.true_and,Bool.and_false,Bool.false_and,Bool.not_not];done)|skip;done)
           | (unfold okTxt;exact resBe (P:=fun j=>txtByte (bAt s j)) hI hi rfl)
           | (refine ⟨s.size - (i+1),by omega,i+1,?_,all_succ hI (P:=fun j=>txtByte (bAt s j)) ?_,by omega,rfl⟩
              · exact congrArg (fun z:Int=>(([sArg s,.val false [.i .i64 z]],[]):Snap)) (wrapN hi hl)
              · first|(show _=_;simp_all only [txtByte,Bool.not_eq_true',Bool.not_eq_false',Bool.not_true,Bool.not_false,Bool.or_true,Bool.true_or,Bool.or_false,Bool.false_or,Bool.and_true,Bool.true_and,Bool.and_false,Bool.false_and,Bool.not_not];done)|skip;done))
    | (show Alive _ _;exact rfl)
    | exact absurd (show (!false)=false by with_reducible assumption) (by decide)
    | exact absurd (show (!true)=true by with_reducible assumption) (by decide)
    | skip
theorem xk160:FOk Tryz.prog T 160 (spTB okTxt):=by
  refine fok (env:=envL []) (N:=29) tabT envL_nil mixed Tryz.func160 rfl Tryz.call160 Tryz.ntmps160 ?_
  rintro args ⟨s,rfl⟩ hwf
  have hl:s.size≤maxLen:=arg0 hwf (List.mem_singleton_self _)
  refine ⟨by simp,?_⟩
  clear hwf
  rw [Tryz.results160]
  repeat' first
    | (refine And.intro ?_ ?_)
    | (intro h;simp only [reduceCtorEq] at h;done)
    | (intro h;rw [h])
    | (intro h)
  all_goals first
    | (show lowEdges _=true;kernel_rfl)|(show logOk _ _=true;kernel_rfl)|exact True.intro|exact Or.inr rfl|exact Or.inl rfl
    | skip
  refine awp_loop (Q:=_) [0,3] [] (fun n st=>∃ i:Nat,st=([sArg s,.val false [.i .i64 (i:Int)]],[])∧(∀ j,j < i→txtByte (bAt s j)=true)∧i≤s.size∧n=s.size - i) ?_ ?_
  · exact ⟨rfl,s.size,0,rfl,nolt _,Nat.zero_le _,rfl⟩
  rintro n st ⟨i,rfl,hI,hle,rfl⟩
  repeat' first
    | (refine And.intro ?_ ?_)
    | (intro h;simp only [reduceCtorEq] at h;done)
    | (intro h;rw [h])
    | (intro h)
  all_goals first
    | (show lowEdges _=true;kernel_rfl)|(show logOk _ _=true;kernel_rfl)|exact True.intro|exact Or.inr rfl|exact Or.inl rfl
    | with_reducible exact Int.natCast_nonneg _
    | (have hi:i < s.size:=ltN (by with_reducible assumption)
       first
         | with_reducible exact of_decide_eq_true (by with_reducible assumption)
         | (show (Int.toNat (i:Int)) < _;rw [Int.toNat_natCast];exact hi)
         | (show (i:Int) < _;omega)
           | exact ⟨_,_,_,rfl⟩
           | (unfold okTxt;refine resBs (i:=i) (P:=fun j=>txtByte (bAt s j)) hi ?_;first|(show _=_;simp_all only [txtByte,Bool.not_eq_true',Bool.not_eq_false',Bool.not_true,Bool.not_false,Bool.or_true,Bool.true_or,Bool.or_false,Bool.false_or,Bool.and_true,Bool.true_and,Bool.and_false,Bool.false_and,Bool.not_not];done)|skip;done)
           | (unfold okTxt;exact resBe (P:=fun j=>txtByte (bAt s j)) hI hi rfl)
           | (refine ⟨s.size - (i+1),by omega,i+1,?_,all_succ hI (P:=fun j=>txtByte (bAt s j)) ?_,by omega,rfl⟩
              · exact congrArg (fun z:Int=>(([sArg s,.val false [.i .i64 z]],[]):Snap)) (wrapN hi hl)
              · first|(show _=_;simp_all only [txtByte,Bool.not_eq_true',Bool.not_eq_false',Bool.not_true,Bool.not_false,Bool.or_true,Bool.true_or,Bool.or_false,Bool.false_or,Bool.and_true,Bool.true_and,Bool.and_false,Bool.false_and,Bool.not_not];done)|skip;done))
    | (have hi:¬ i < s.size:=nltN (by with_reducible assumption)
       first
           | exact ⟨_,_,_,rfl⟩
           | (unfold okTxt;refine resBs (i:=i) (P:=fun j=>txtByte (bAt s j)) hi ?_;first|(show _=_;simp_all only [txtByte,Bool.not_eq_true',Bool.not_eq_false',Bool.not_true,Bool.not_false,Bool.or_true,Bool.true_or,Bool.or_false,Bool.false_or,Bool.and_true,Bool.true_and,Bool.and_false,Bool.false_and,Bool.not_not];done)|skip;done)
           | (unfold okTxt;exact resBe (P:=fun j=>txtByte (bAt s j)) hI hi rfl)
           | (refine ⟨s.size - (i+1),by omega,i+1,?_,all_succ hI (P:=fun j=>txtByte (bAt s j)) ?_,by omega,rfl⟩
              · exact congrArg (fun z:Int=>(([sArg s,.val false [.i .i64 z]],[]):Snap)) (wrapN hi hl)
              · first|(show _=_;simp_all only [txtByte,Bool.not_eq_true',Bool.not_eq_false',Bool.not_true,Bool.not_false,Bool.or_true,Bool.true_or,Bool.or_false,Bool.false_or,Bool.and_true,Bool.true_and,Bool.and_false,Bool.false_and,Bool.not_not];done)|skip;done))
    | (show Alive _ _;exact rfl)
    | exact absurd (show (!false)=false by with_reducible assumption) (by decide)
    | exact absurd (show (!true)=true by with_reducible assumption) (by decide)
    | skip
theorem xk246:FOk Tryz.prog T 246 (spTB nameSh):=by
  refine fok (env:=envL []) (N:=45) tabT envL_nil mixed Tryz.func246 rfl Tryz.call246 Tryz.ntmps246 ?_
  rintro args ⟨s,rfl⟩ hwf
  have hl:s.size≤maxLen:=arg0 hwf (List.mem_singleton_self _)
  refine ⟨by simp,?_⟩
  clear hwf
  rw [Tryz.results246]
  repeat' first
    | (refine And.intro ?_ ?_)
    | (intro h;simp only [reduceCtorEq] at h;done)
    | (intro h;rw [h])
    | (intro h)
  all_goals first
    | (show lowEdges _=true;kernel_rfl)|(show logOk _ _=true;kernel_rfl)|exact True.intro|exact Or.inr rfl|exact Or.inl rfl
    | skip
  refine awp_loop (Q:=_) [0,3] [] (fun n st=>∃ i:Nat,st=([sArg s,.val false [.i .i64 (i:Int)]],[])∧(∀ j,j < i→wordB s j=true)∧i≤s.size∧n=s.size - i) ?_ ?_
  · exact ⟨rfl,s.size,0,rfl,nolt _,Nat.zero_le _,rfl⟩
  rintro n st ⟨i,rfl,hI,hle,rfl⟩
  repeat' first
    | (refine And.intro ?_ ?_)
    | (intro h;simp only [reduceCtorEq] at h;done)
    | (intro h;rw [h])
    | (intro h)
  all_goals first
    | (show lowEdges _=true;kernel_rfl)|(show logOk _ _=true;kernel_rfl)|exact True.intro|exact Or.inr rfl|exact Or.inl rfl
    | with_reducible exact Int.natCast_nonneg _
    | (have hi:i < s.size:=ltN (by with_reducible assumption)
       first
         | with_reducible exact of_decide_eq_true (by with_reducible assumption)
         | (show (Int.toNat (i:Int)) < _;rw [Int.toNat_natCast];exact hi)
         | (show (i:Int) < _;omega)
           | exact ⟨_,_,_,rfl⟩
           | (unfold nameSh;refine resBs (i:=i) (P:=fun j=>wordB s j) hi ?_;first|(show _=_;simp_all only [wordB,letB,digB,Bool.not_eq_true',Bool.not_eq_false',Bool.not_true,Bool.not_false,Bool.or_true,Bool.true_or,Bool.or_false,Bool.false_or,Bool.and_true,Bool.true_and,Bool.and_false,Bool.false_and,Bool.not_not];done)|skip;done)
           | (unfold nameSh;exact resBe (P:=fun j=>wordB s j) hI hi rfl)
           | (refine ⟨s.size - (i+1),by omega,i+1,?_,all_succ hI (P:=fun j=>wordB s j) ?_,by omega,rfl⟩
              · exact congrArg (fun z:Int=>(([sArg s,.val false [.i .i64 z]],[]):Snap)) (wrapN hi hl)
              · first|(show _=_;simp_all only [wordB,letB,digB,Bool.not_eq_true',Bool.not_eq_false',Bool.not_true,Bool.not_false,Bool.or_true,Bool.true_or,Bool.or_false,Bool.false_or,Bool.and_true,Bool.true_and,Bool.and_false,Bool.false_and,Bool.not_not];done)|skip;done))
    | (have hi:¬ i < s.size:=nltN (by with_reducible assumption)
       first
           | exact ⟨_,_,_,rfl⟩
           | (unfold nameSh;refine resBs (i:=i) (P:=fun j=>wordB s j) hi ?_;first|(show _=_;simp_all only [wordB,letB,digB,Bool.not_eq_true',Bool.not_eq_false',Bool.not_true,Bool.not_false,Bool.or_true,Bool.true_or,Bool.or_false,Bool.false_or,Bool.and_true,Bool.true_and,Bool.and_false,Bool.false_and,Bool.not_not];done)|skip;done)
           | (unfold nameSh;exact resBe (P:=fun j=>wordB s j) hI hi rfl)
           | (refine ⟨s.size - (i+1),by omega,i+1,?_,all_succ hI (P:=fun j=>wordB s j) ?_,by omega,rfl⟩
              · exact congrArg (fun z:Int=>(([sArg s,.val false [.i .i64 z]],[]):Snap)) (wrapN hi hl)
              · first|(show _=_;simp_all only [wordB,letB,digB,Bool.not_eq_true',Bool.not_eq_false',Bool.not_true,Bool.not_false,Bool.or_true,Bool.true_or,Bool.or_false,Bool.false_or,Bool.and_true,Bool.true_and,Bool.and_false,Bool.false_and,Bool.not_not];done)|skip;done))
    | (show Alive _ _;exact rfl)
    | exact absurd (show (!false)=false by with_reducible assumption) (by decide)
    | exact absurd (show (!true)=true by with_reducible assumption) (by decide)
    | skip
theorem xk249:FOk Tryz.prog T 249 (spTB nameIm):=by
  refine fok (env:=envL [(50,spIn)]) (N:=42) tabT (envL_cons ok50 envL_nil) mixed Tryz.func249 rfl Tryz.call249 Tryz.ntmps249 ?_
  rintro args ⟨s,rfl⟩ hwf
  have hl:s.size≤maxLen:=arg0 hwf (List.mem_singleton_self _)
  refine ⟨by simp,?_⟩
  clear hwf
  rw [Tryz.results249]
  repeat' first
    | (refine And.intro ?_ ?_)
    | (intro h;simp only [reduceCtorEq] at h;done)
    | (intro h;rw [h])
    | (intro h)
  all_goals first
    | (show lowEdges _=true;kernel_rfl)|(show logOk _ _=true;kernel_rfl)|exact True.intro|exact Or.inr rfl|exact Or.inl rfl
    | skip
  refine awp_loop (Q:=_) [0,3] [] (fun n st=>∃ i:Nat,st=([sArg s,.val false [.i .i64 (i:Int)]],[])∧(∀ j,j < i→wordB s j=true)∧i≤s.size∧n=s.size - i) ?_ ?_
  · exact ⟨rfl,s.size,0,rfl,nolt _,Nat.zero_le _,rfl⟩
  rintro n st ⟨i,rfl,hI,hle,rfl⟩
  repeat' first
    | (refine And.intro ?_ ?_)
    | (intro h;simp only [reduceCtorEq] at h;done)
    | (intro h;rw [h])
    | (intro h)
  all_goals first
    | (show lowEdges _=true;kernel_rfl)|(show logOk _ _=true;kernel_rfl)|exact True.intro|exact Or.inr rfl|exact Or.inl rfl
    | with_reducible exact Int.natCast_nonneg _
    | (have hi:i < s.size:=ltN (by with_reducible assumption)
       first
         | with_reducible exact of_decide_eq_true (by with_reducible assumption)
         | (show (Int.toNat (i:Int)) < _;rw [Int.toNat_natCast];exact hi)
         | (show (i:Int) < _;omega)
           | exact ⟨_,_,_,rfl⟩
           | (unfold nameIm;refine resBs (i:=i) (P:=fun j=>wordB s j) hi ?_;first|(show _=_;simp_all only [wordB,letB,digB,Bool.not_eq_true',Bool.not_eq_false',Bool.not_true,Bool.not_false,Bool.or_true,Bool.true_or,Bool.or_false,Bool.false_or,Bool.and_true,Bool.true_and,Bool.and_false,Bool.false_and,Bool.not_not];done)|(show _=_;simp_all only [wordB,letB,digB,lt48,gt57,Bool.not_eq_true',Bool.not_eq_false',Bool.not_true,Bool.not_false,Bool.or_true,Bool.true_or,Bool.or_false,Bool.false_or,Bool.and_true,Bool.true_and,Bool.and_false,Bool.false_and,Bool.not_not];done))
           | (unfold nameIm;exact resBe (P:=fun j=>wordB s j) hI hi rfl)
           | (refine ⟨s.size - (i+1),by omega,i+1,?_,all_succ hI (P:=fun j=>wordB s j) ?_,by omega,rfl⟩
              · exact congrArg (fun z:Int=>(([sArg s,.val false [.i .i64 z]],[]):Snap)) (wrapN hi hl)
              · first|(show _=_;simp_all only [wordB,letB,digB,Bool.not_eq_true',Bool.not_eq_false',Bool.not_true,Bool.not_false,Bool.or_true,Bool.true_or,Bool.or_false,Bool.false_or,Bool.and_true,Bool.true_and,Bool.and_false,Bool.false_and,Bool.not_not];done)|(show _=_;simp_all only [wordB,letB,digB,lt48,gt57,Bool.not_eq_true',Bool.not_eq_false',Bool.not_true,Bool.not_false,Bool.or_true,Bool.true_or,Bool.or_false,Bool.false_or,Bool.and_true,Bool.true_and,Bool.and_false,Bool.false_and,Bool.not_not];done)))
    | (have hi:¬ i < s.size:=nltN (by with_reducible assumption)
       first
           | exact ⟨_,_,_,rfl⟩
           | (unfold nameIm;refine resBs (i:=i) (P:=fun j=>wordB s j) hi ?_;first|(show _=_;simp_all only [wordB,letB,digB,Bool.not_eq_true',Bool.not_eq_false',Bool.not_true,Bool.not_false,Bool.or_true,Bool.true_or,Bool.or_false,Bool.false_or,Bool.and_true,Bool.true_and,Bool.and_false,Bool.false_and,Bool.not_not];done)|(show _=_;simp_all only [wordB,letB,digB,lt48,gt57,Bool.not_eq_true',Bool.not_eq_false',Bool.not_true,Bool.not_false,Bool.or_true,Bool.true_or,Bool.or_false,Bool.false_or,Bool.and_true,Bool.true_and,Bool.and_false,Bool.false_and,Bool.not_not];done))
           | (unfold nameIm;exact resBe (P:=fun j=>wordB s j) hI hi rfl)
           | (refine ⟨s.size - (i+1),by omega,i+1,?_,all_succ hI (P:=fun j=>wordB s j) ?_,by omega,rfl⟩
              · exact congrArg (fun z:Int=>(([sArg s,.val false [.i .i64 z]],[]):Snap)) (wrapN hi hl)
              · first|(show _=_;simp_all only [wordB,letB,digB,Bool.not_eq_true',Bool.not_eq_false',Bool.not_true,Bool.not_false,Bool.or_true,Bool.true_or,Bool.or_false,Bool.false_or,Bool.and_true,Bool.true_and,Bool.and_false,Bool.false_and,Bool.not_not];done)|(show _=_;simp_all only [wordB,letB,digB,lt48,gt57,Bool.not_eq_true',Bool.not_eq_false',Bool.not_true,Bool.not_false,Bool.or_true,Bool.true_or,Bool.or_false,Bool.false_or,Bool.and_true,Bool.true_and,Bool.and_false,Bool.false_and,Bool.not_not];done)))
    | (show Alive _ _;exact rfl)
    | exact absurd (show (!false)=false by with_reducible assumption) (by decide)
    | exact absurd (show (!true)=true by with_reducible assumption) (by decide)
    | skip
theorem xk271:FOk Tryz.prog T 271 (spWords resvB):=by
  refine fok (env:=envL []) (N:=2) tabT envL_nil mixed Tryz.func271 rfl Tryz.call271 Tryz.ntmps271 ?_
  rintro args rfl hwf
  refine ⟨by simp,?_⟩
  clear hwf
  rw [Tryz.results271]
  repeat' first
    | (refine And.intro ?_ ?_)
    | (intro h;simp only [reduceCtorEq] at h;done)
    | (intro h;rw [h])
    | (intro h)
  all_goals first
    | (show lowEdges _=true;kernel_rfl)|(show logOk _ _=true;kernel_rfl)|exact True.intro|exact Or.inr rfl|exact Or.inl rfl
    | exact rfl
    | omega
    | decide
    | skip
theorem xk248:FOk Tryz.prog T 248 (spSTB hasT):=by
  refine fok (env:=envL []) (N:=18) tabT envL_nil mixed Tryz.func248 rfl Tryz.call248 Tryz.ntmps248 ?_
  rintro args ⟨a,s,rfl⟩ hwf
  have hl:a.length≤maxLen:=(show WfD T (.l 9) (.l a) from arg0 hwf (List.mem_singleton_self _)).len
  refine ⟨by simp,?_⟩
  clear hwf
  rw [Tryz.results248]
  repeat' first
    | (refine And.intro ?_ ?_)
    | (intro h;simp only [reduceCtorEq] at h;done)
    | (intro h;rw [h])
    | (intro h)
  all_goals first
    | (show lowEdges _=true;kernel_rfl)|(show logOk _ _=true;kernel_rfl)|exact True.intro|exact Or.inr rfl|exact Or.inl rfl
    | skip
  refine awp_loop (Q:=_) [0,1,5] [] (fun n st=>∃ i:Nat,st=([argS 9 a,sArg s,.val false [.i .i64 (i:Int)]],[])∧(∀ j,j < i→(!isAt a s j)=true)∧i≤a.length∧n=a.length - i) ?_ ?_
  · exact ⟨rfl,a.length,0,rfl,nolt _,Nat.zero_le _,rfl⟩
  rintro n st ⟨i,rfl,hI,hle,rfl⟩
  repeat' first
    | (refine And.intro ?_ ?_)
    | (intro h;simp only [reduceCtorEq] at h;done)
    | (intro h;rw [h])
    | (intro h)
  all_goals first
    | (show lowEdges _=true;kernel_rfl)|(show logOk _ _=true;kernel_rfl)|exact True.intro|exact Or.inr rfl|exact Or.inl rfl
    | with_reducible exact Int.natCast_nonneg _
    | (have hi:i < a.length:=ltN (by with_reducible assumption)
       first
         | with_reducible exact of_decide_eq_true (by with_reducible assumption)
         | (show (Int.toNat (i:Int)) < _;rw [Int.toNat_natCast];exact hi)
         | (show (i:Int) < _;omega)
           | exact resBn (P:=fun j=>!isAt a s j) hi (notT (by with_reducible assumption))
           | exact resBm (P:=fun j=>!isAt a s j) hI hi
           | (refine ⟨a.length - (i+1),by omega,i+1,?_,all_succ hI (P:=fun j=>(!isAt a s j)) ?_,by omega,rfl⟩
              · exact congrArg (fun z:Int=>(([argS 9 a,sArg s,.val false [.i .i64 z]],[]):Snap)) (wrapN hi hl)
              · exact notF (by with_reducible assumption)))
    | (have hi:¬ i < a.length:=nltN (by with_reducible assumption)
       first
           | exact resBn (P:=fun j=>!isAt a s j) hi (notT (by with_reducible assumption))
           | exact resBm (P:=fun j=>!isAt a s j) hI hi
           | (refine ⟨a.length - (i+1),by omega,i+1,?_,all_succ hI (P:=fun j=>(!isAt a s j)) ?_,by omega,rfl⟩
              · exact congrArg (fun z:Int=>(([argS 9 a,sArg s,.val false [.i .i64 z]],[]):Snap)) (wrapN hi hl)
              · exact notF (by with_reducible assumption)))
    | (show Alive _ _;exact rfl)
    | exact absurd (show (!false)=false by with_reducible assumption) (by decide)
    | exact absurd (show (!true)=true by with_reducible assumption) (by decide)
    | skip
theorem xk145:FOk Tryz.prog T 145 (spSTI idxT):=by
  refine fok (env:=envL []) (N:=19) tabT envL_nil mixed Tryz.func145 rfl Tryz.call145 Tryz.ntmps145 ?_
  rintro args ⟨a,s,rfl⟩ hwf
  have hl:a.length≤maxLen:=(show WfD T (.l 9) (.l a) from arg0 hwf (List.mem_singleton_self _)).len
  refine ⟨by simp,?_⟩
  clear hwf
  rw [Tryz.results145]
  repeat' first
    | (refine And.intro ?_ ?_)
    | (intro h;simp only [reduceCtorEq] at h;done)
    | (intro h;rw [h])
    | (intro h)
  all_goals first
    | (show lowEdges _=true;kernel_rfl)|(show logOk _ _=true;kernel_rfl)|exact True.intro|exact Or.inr rfl|exact Or.inl rfl
    | skip
  refine awp_loop (Q:=_) [0,1,5] [] (fun n st=>∃ i:Nat,st=([argS 9 a,sArg s,.val false [.i .i64 (i:Int)]],[])∧(∀ j,j < i→(!isAt a s j)=true)∧i≤a.length∧n=a.length - i) ?_ ?_
  · exact ⟨rfl,a.length,0,rfl,nolt _,Nat.zero_le _,rfl⟩
  rintro n st ⟨i,rfl,hI,hle,rfl⟩
  repeat' first
    | (refine And.intro ?_ ?_)
    | (intro h;simp only [reduceCtorEq] at h;done)
    | (intro h;rw [h])
    | (intro h)
  all_goals first
    | (show lowEdges _=true;kernel_rfl)|(show logOk _ _=true;kernel_rfl)|exact True.intro|exact Or.inr rfl|exact Or.inl rfl
    | with_reducible exact Int.natCast_nonneg _
    | (have hi:i < a.length:=ltN (by with_reducible assumption)
       first
         | with_reducible exact of_decide_eq_true (by with_reducible assumption)
         | (show (Int.toNat (i:Int)) < _;rw [Int.toNat_natCast];exact hi)
         | (show (i:Int) < _;omega)
           | exact resIh (P:=isAt a s) hi (by with_reducible assumption) hI
           | exact resIn (P:=isAt a s) hI hi
           | (refine ⟨a.length - (i+1),by omega,i+1,?_,all_succ hI (P:=fun j=>(!isAt a s j)) ?_,by omega,rfl⟩
              · exact congrArg (fun z:Int=>(([argS 9 a,sArg s,.val false [.i .i64 z]],[]):Snap)) (wrapN hi hl)
              · exact notF (by with_reducible assumption)))
    | (have hi:¬ i < a.length:=nltN (by with_reducible assumption)
       first
           | exact resIh (P:=isAt a s) hi (by with_reducible assumption) hI
           | exact resIn (P:=isAt a s) hI hi
           | (refine ⟨a.length - (i+1),by omega,i+1,?_,all_succ hI (P:=fun j=>(!isAt a s j)) ?_,by omega,rfl⟩
              · exact congrArg (fun z:Int=>(([argS 9 a,sArg s,.val false [.i .i64 z]],[]):Snap)) (wrapN hi hl)
              · exact notF (by with_reducible assumption)))
    | (show Alive _ _;exact rfl)
    | exact absurd (show (!false)=false by with_reducible assumption) (by decide)
    | exact absurd (show (!true)=true by with_reducible assumption) (by decide)
    | skip
theorem xk154:FOk Tryz.prog T 154 (spSTI idxT):=by
  refine fok (env:=envL []) (N:=19) tabT envL_nil mixed Tryz.func154 rfl Tryz.call154 Tryz.ntmps154 ?_
  rintro args ⟨a,s,rfl⟩ hwf
  have hl:a.length≤maxLen:=(show WfD T (.l 9) (.l a) from arg0 hwf (List.mem_singleton_self _)).len
  refine ⟨by simp,?_⟩
  clear hwf
  rw [Tryz.results154]
  repeat' first
    | (refine And.intro ?_ ?_)
    | (intro h;simp only [reduceCtorEq] at h;done)
    | (intro h;rw [h])
    | (intro h)
  all_goals first
    | (show lowEdges _=true;kernel_rfl)|(show logOk _ _=true;kernel_rfl)|exact True.intro|exact Or.inr rfl|exact Or.inl rfl
    | skip
  refine awp_loop (Q:=_) [0,1,7,8,9] [] (fun n st=>∃ i:Nat,st=([argS 9 a,sArg s,argS 9 a,.val false [.i .i64 a.length],.val false [.i .i64 (i:Int)]],[])∧(∀ j,j < i→(!isAt a s j)=true)∧i≤a.length∧n=a.length - i) ?_ ?_
  · exact ⟨rfl,a.length,0,rfl,nolt _,Nat.zero_le _,rfl⟩
  rintro n st ⟨i,rfl,hI,hle,rfl⟩
  repeat' first
    | (refine And.intro ?_ ?_)
    | (intro h;simp only [reduceCtorEq] at h;done)
    | (intro h;rw [h])
    | (intro h)
  all_goals first
    | (show lowEdges _=true;kernel_rfl)|(show logOk _ _=true;kernel_rfl)|exact True.intro|exact Or.inr rfl|exact Or.inl rfl
    | with_reducible exact Int.natCast_nonneg _
    | (have hi:i < a.length:=ltN (by with_reducible assumption)
       first
         | with_reducible exact of_decide_eq_true (by with_reducible assumption)
         | (show (Int.toNat (i:Int)) < _;rw [Int.toNat_natCast];exact hi)
         | (show (i:Int) < _;omega)
           | exact resIh (P:=isAt a s) hi (by with_reducible assumption) hI
           | exact resIn (P:=isAt a s) hI hi
           | (refine ⟨a.length - (i+1),by omega,i+1,?_,all_succ hI (P:=fun j=>(!isAt a s j)) ?_,by omega,rfl⟩
              · exact congrArg (fun z:Int=>(([argS 9 a,sArg s,argS 9 a,.val false [.i .i64 a.length],.val false [.i .i64 z]],[]):Snap)) (wrapN hi hl)
              · exact notF (by with_reducible assumption)))
    | (have hi:¬ i < a.length:=nltN (by with_reducible assumption)
       first
           | exact resIh (P:=isAt a s) hi (by with_reducible assumption) hI
           | exact resIn (P:=isAt a s) hI hi
           | (refine ⟨a.length - (i+1),by omega,i+1,?_,all_succ hI (P:=fun j=>(!isAt a s j)) ?_,by omega,rfl⟩
              · exact congrArg (fun z:Int=>(([argS 9 a,sArg s,argS 9 a,.val false [.i .i64 a.length],.val false [.i .i64 z]],[]):Snap)) (wrapN hi hl)
              · exact notF (by with_reducible assumption)))
    | (show Alive _ _;exact rfl)
    | exact absurd (show (!false)=false by with_reducible assumption) (by decide)
    | exact absurd (show (!true)=true by with_reducible assumption) (by decide)
    | skip
theorem xk247:FOk Tryz.prog T 247 (spTB isResv):=by
  refine fok (env:=envL [(271,(spWords resvB)),(248,(spSTB hasT))]) (N:=6) tabT (envL_cons xk271 (envL_cons xk248 envL_nil)) mixed Tryz.func247 rfl Tryz.call247 Tryz.ntmps247 ?_
  rintro args ⟨s,rfl⟩ hwf
  refine ⟨by simp,?_⟩
  clear hwf
  rw [Tryz.results247]
  repeat' first
    | (refine And.intro ?_ ?_)
    | (intro h;simp only [reduceCtorEq] at h;done)
    | (intro h;rw [h])
    | (intro h)
  all_goals first
    | (show lowEdges _=true;kernel_rfl)|(show logOk _ _=true;kernel_rfl)|exact True.intro|exact Or.inr rfl|exact Or.inl rfl
    | exact rfl
    | exact ⟨_,_,rfl⟩
    | exact resB (hasT_resv s)
    | skip
theorem xk272:FOk Tryz.prog T 272 spArgC:=by
  refine fok (env:=envL []) (N:=26) tabT envL_nil mixed Tryz.func272 rfl Tryz.call272 Tryz.ntmps272 ?_
  rintro args ⟨s,rfl⟩ hwf
  refine ⟨by simp,?_⟩
  clear hwf
  rw [Tryz.results272]
  repeat' first
    | (refine And.intro ?_ ?_)
    | (intro h;simp only [reduceCtorEq] at h;done)
    | (intro h;rw [h])
    | (intro h)
  all_goals first
    | (show lowEdges _=true;kernel_rfl)|(show logOk _ _=true;kernel_rfl)|exact True.intro|exact Or.inr rfl|exact Or.inl rfl
    | exact rfl
    | exact ⟨_,rfl⟩
    | (refine resI ?_;simp only [argC, *,if_true,Bool.or_true,Bool.true_or,Bool.or_false,Bool.false_or];done)
    | (refine resI ?_;simp only [argC, *,if_true,Bool.or_true,Bool.true_or,Bool.or_false,Bool.false_or];rfl)
    | skip
theorem xk250:FOk Tryz.prog T 250 (spTB isResv):=by
  refine fok (env:=envL [(272,spArgC)]) (N:=15) tabT (envL_cons xk272 envL_nil) mixed Tryz.func250 rfl Tryz.call250 Tryz.ntmps250 ?_
  rintro args ⟨s,rfl⟩ hwf
  refine ⟨by simp,?_⟩
  clear hwf
  rw [Tryz.results250]
  repeat' first
    | (refine And.intro ?_ ?_)
    | (intro h;simp only [reduceCtorEq] at h;done)
    | (intro h;rw [h])
    | (intro h)
  all_goals first
    | (show lowEdges _=true;kernel_rfl)|(show logOk _ _=true;kernel_rfl)|exact True.intro|exact Or.inr rfl|exact Or.inl rfl
    | exact rfl
    | exact ⟨_,rfl⟩
    | (refine resB ((?_:_=resvI s).trans (resvI_eq s));simp only [resvI, *,Bool.or_true,Bool.true_or,Bool.or_false,Bool.false_or];done)
    | (refine resB ((?_:_=resvI s).trans (resvI_eq s));simp only [resvI, *,Bool.or_true,Bool.true_or,Bool.or_false,Bool.false_or];rfl)
    | skip
theorem xk211:FOk Tryz.prog T 211 (spTB nameOk):=by
  refine fok (env:=envL [(246,(spTB nameSh)),(247,(spTB isResv))]) (N:=15) tabT (envL_cons xk246 (envL_cons xk247 envL_nil)) mixed Tryz.func211 rfl Tryz.call211 Tryz.ntmps211 ?_
  rintro args ⟨s,rfl⟩ hwf
  refine ⟨by simp,?_⟩
  clear hwf
  rw [Tryz.results211]
  repeat' first
    | (refine And.intro ?_ ?_)
    | (intro h;simp only [reduceCtorEq] at h;done)
    | (intro h;rw [h])
    | (intro h)
  all_goals first
    | (show lowEdges _=true;kernel_rfl)|(show logOk _ _=true;kernel_rfl)|exact True.intro|exact Or.inr rfl|exact Or.inl rfl
    | exact rfl
    | exact ⟨_,rfl⟩
    | (refine resB ?_;simp_all only [nameOk,Bool.not_eq_true',Bool.not_eq_false',Bool.not_true,Bool.not_false,Bool.or_true,Bool.true_or,Bool.or_false,Bool.false_or,Bool.and_true,Bool.true_and,Bool.and_false,Bool.false_and,Bool.not_not];done)
    | skip
theorem xk215:FOk Tryz.prog T 215 (spTB nameOk):=by
  refine fok (env:=envL [(249,(spTB nameIm)),(250,(spTB isResv))]) (N:=10) tabT (envL_cons xk249 (envL_cons xk250 envL_nil)) mixed Tryz.func215 rfl Tryz.call215 Tryz.ntmps215 ?_
  rintro args ⟨s,rfl⟩ hwf
  refine ⟨by simp,?_⟩
  clear hwf
  rw [Tryz.results215]
  repeat' first
    | (refine And.intro ?_ ?_)
    | (intro h;simp only [reduceCtorEq] at h;done)
    | (intro h;rw [h])
    | (intro h)
  all_goals first
    | (show lowEdges _=true;kernel_rfl)|(show logOk _ _=true;kernel_rfl)|exact True.intro|exact Or.inr rfl|exact Or.inl rfl
    | exact rfl
    | exact ⟨_,rfl⟩
    | (refine resB ((?_:_=(nameIm s && !isResv s)).trans (nameIm_eq s));simp_all only [Bool.not_eq_true',Bool.not_eq_false',Bool.not_true,Bool.not_false,Bool.or_true,Bool.true_or,Bool.or_false,Bool.false_or,Bool.and_true,Bool.true_and,Bool.and_false,Bool.false_and,Bool.not_not];done)
    | skip
theorem xk212:FOk Tryz.prog T 212 (spSB 9 distT):=by
  refine fok (env:=envL [(248,(spSTB hasT))]) (N:=18) tabT (envL_cons xk248 envL_nil) mixed Tryz.func212 rfl Tryz.call212 Tryz.ntmps212 ?_
  rintro args ⟨a,rfl⟩ hwf
  have hl:a.length≤maxLen:=(show WfD T (.l 9) (.l a) from arg0 hwf (List.mem_singleton_self _)).len
  refine ⟨by simp,?_⟩
  clear hwf
  rw [Tryz.results212]
  repeat' first
    | (refine And.intro ?_ ?_)
    | (intro h;simp only [reduceCtorEq] at h;done)
    | (intro h;rw [h])
    | (intro h)
  all_goals first
    | (show lowEdges _=true;kernel_rfl)|(show logOk _ _=true;kernel_rfl)|exact True.intro|exact Or.inr rfl|exact Or.inl rfl
    | skip
  refine awp_loop (Q:=_) [0,3] [] (fun n st=>∃ i:Nat,st=([argS 9 a,.val false [.i .i64 (i:Int)]],[])∧(∀ j,j < i→(!hasT (a.take j) (tAt a j))=true)∧i≤a.length∧n=a.length - i) ?_ ?_
  · exact ⟨rfl,a.length,0,rfl,nolt _,Nat.zero_le _,rfl⟩
  rintro n st ⟨i,rfl,hI,hle,rfl⟩
  repeat' first
    | (refine And.intro ?_ ?_)
    | (intro h;simp only [reduceCtorEq] at h;done)
    | (intro h;rw [h])
    | (intro h)
  all_goals first
    | (show lowEdges _=true;kernel_rfl)|(show logOk _ _=true;kernel_rfl)|exact True.intro|exact Or.inr rfl|exact Or.inl rfl
    | with_reducible exact Int.natCast_nonneg _
    | (have hi:i < a.length:=ltN (by with_reducible assumption)
       first
         | with_reducible exact of_decide_eq_true (by with_reducible assumption)
         | (show (Int.toNat (i:Int)) < _;rw [Int.toNat_natCast];exact hi)
         | (show (i:Int) < _;omega)
           | exact ⟨_,_,rfl⟩
           | (show (i:Int)≤_;omega)
           | (show i≤_;omega)
           | exact Int.le_refl _
           | exact resBs' (P:=fun j=>!hasT (a.take j) (tAt a j)) hi (notT (b:=hasT (a.take i) (tAt a i)) (show hasT (List.drop (Int.toNat 0) (List.take (Int.toNat (i:Int)) a)) (tAt a i)=true by with_reducible assumption))
           | (unfold distT;exact resBe' hI hi)
           | (refine ⟨a.length - (i+1),by omega,i+1,?_,all_succ hI (P:=fun j=>(!hasT (a.take j) (tAt a j))) ?_,by omega,rfl⟩
              · exact congrArg (fun z:Int=>(([argS 9 a,.val false [.i .i64 z]],[]):Snap)) (wrapN hi hl)
              · exact notF (b:=hasT (a.take i) (tAt a i)) (show hasT (List.drop (Int.toNat 0) (List.take (Int.toNat (i:Int)) a)) (tAt a i)=false by with_reducible assumption)))
    | (have hi:¬ i < a.length:=nltN (by with_reducible assumption)
       first
           | exact ⟨_,_,rfl⟩
           | (show (i:Int)≤_;omega)
           | (show i≤_;omega)
           | exact Int.le_refl _
           | exact resBs' (P:=fun j=>!hasT (a.take j) (tAt a j)) hi (notT (b:=hasT (a.take i) (tAt a i)) (show hasT (List.drop (Int.toNat 0) (List.take (Int.toNat (i:Int)) a)) (tAt a i)=true by with_reducible assumption))
           | (unfold distT;exact resBe' hI hi)
           | (refine ⟨a.length - (i+1),by omega,i+1,?_,all_succ hI (P:=fun j=>(!hasT (a.take j) (tAt a j))) ?_,by omega,rfl⟩
              · exact congrArg (fun z:Int=>(([argS 9 a,.val false [.i .i64 z]],[]):Snap)) (wrapN hi hl)
              · exact notF (b:=hasT (a.take i) (tAt a i)) (show hasT (List.drop (Int.toNat 0) (List.take (Int.toNat (i:Int)) a)) (tAt a i)=false by with_reducible assumption)))
    | (show Alive _ _;exact rfl)
    | exact absurd (show (!false)=false by with_reducible assumption) (by decide)
    | exact absurd (show (!true)=true by with_reducible assumption) (by decide)
    | skip
theorem xk216:FOk Tryz.prog T 216 (spSB 9 distT):=by
  refine fok (env:=envL [(154,(spSTI idxT))]) (N:=18) tabT (envL_cons xk154 envL_nil) mixed Tryz.func216 rfl Tryz.call216 Tryz.ntmps216 ?_
  rintro args ⟨a,rfl⟩ hwf
  have hl:a.length≤maxLen:=(show WfD T (.l 9) (.l a) from arg0 hwf (List.mem_singleton_self _)).len
  refine ⟨by simp,?_⟩
  clear hwf
  rw [Tryz.results216]
  repeat' first
    | (refine And.intro ?_ ?_)
    | (intro h;simp only [reduceCtorEq] at h;done)
    | (intro h;rw [h])
    | (intro h)
  all_goals first
    | (show lowEdges _=true;kernel_rfl)|(show logOk _ _=true;kernel_rfl)|exact True.intro|exact Or.inr rfl|exact Or.inl rfl
    | skip
  refine awp_loop (Q:=_) [0,5,6,7] [] (fun n st=>∃ i:Nat,st=([argS 9 a,argS 9 a,.val false [.i .i64 a.length],.val false [.i .i64 (i:Int)]],[])∧(∀ j,j < i→(!hasT (a.take j) (tAt a j))=true)∧i≤a.length∧n=a.length - i) ?_ ?_
  · exact ⟨rfl,a.length,0,rfl,nolt _,Nat.zero_le _,rfl⟩
  rintro n st ⟨i,rfl,hI,hle,rfl⟩
  repeat' first
    | (refine And.intro ?_ ?_)
    | (intro h;simp only [reduceCtorEq] at h;done)
    | (intro h;rw [h])
    | (intro h)
  all_goals first
    | (show lowEdges _=true;kernel_rfl)|(show logOk _ _=true;kernel_rfl)|exact True.intro|exact Or.inr rfl|exact Or.inl rfl
    | with_reducible exact Int.natCast_nonneg _
    | (have hi:i < a.length:=ltN (by with_reducible assumption)
       first
         | with_reducible exact of_decide_eq_true (by with_reducible assumption)
         | (show (Int.toNat (i:Int)) < _;rw [Int.toNat_natCast];exact hi)
         | (show (i:Int) < _;omega)
           | exact ⟨_,_,rfl⟩
           | exact resBs' (P:=fun j=>!hasT (a.take j) (tAt a j)) hi (dist_no hi (by with_reducible assumption))
           | (unfold distT;exact resBe' hI hi)
           | (refine ⟨a.length - (i+1),by omega,i+1,?_,all_succ hI (P:=fun j=>(!hasT (a.take j) (tAt a j))) ?_,by omega,rfl⟩
              · exact congrArg (fun z:Int=>(([argS 9 a,argS 9 a,.val false [.i .i64 a.length],.val false [.i .i64 z]],[]):Snap)) (wrapN hi hl)
              · exact dist_yes hi (by with_reducible assumption)))
    | (have hi:¬ i < a.length:=nltN (by with_reducible assumption)
       first
           | exact ⟨_,_,rfl⟩
           | exact resBs' (P:=fun j=>!hasT (a.take j) (tAt a j)) hi (dist_no hi (by with_reducible assumption))
           | (unfold distT;exact resBe' hI hi)
           | (refine ⟨a.length - (i+1),by omega,i+1,?_,all_succ hI (P:=fun j=>(!hasT (a.take j) (tAt a j))) ?_,by omega,rfl⟩
              · exact congrArg (fun z:Int=>(([argS 9 a,argS 9 a,.val false [.i .i64 a.length],.val false [.i .i64 z]],[]):Snap)) (wrapN hi hl)
              · exact dist_yes hi (by with_reducible assumption)))
    | (show Alive _ _;exact rfl)
    | exact absurd (show (!false)=false by with_reducible assumption) (by decide)
    | exact absurd (show (!true)=true by with_reducible assumption) (by decide)
    | skip
theorem xk184:FOk Tryz.prog T 184 (spSB 9 colsOk):=by
  refine fok (env:=envL [(211,(spTB nameOk)),(49,spIn),(212,(spSB 9 distT))]) (N:=23) tabT (envL_cons xk211 (envL_cons ok49 (envL_cons xk212 envL_nil))) mixed Tryz.func184 rfl Tryz.call184 Tryz.ntmps184 ?_
  rintro args ⟨a,rfl⟩ hwf
  have hl:a.length≤maxLen:=(show WfD T (.l 9) (.l a) from arg0 hwf (List.mem_singleton_self _)).len
  refine ⟨by simp,?_⟩
  clear hwf
  rw [Tryz.results184]
  repeat' first
    | (refine And.intro ?_ ?_)
    | (intro h;simp only [reduceCtorEq] at h;done)
    | (intro h;rw [h])
    | (intro h)
  all_goals first
    | (show lowEdges _=true;kernel_rfl)|(show logOk _ _=true;kernel_rfl)|exact True.intro|exact Or.inr rfl|exact Or.inl rfl
    | skip
  refine awp_loop (Q:=_) [0,3] [] (fun n st=>∃ i:Nat,st=([argS 9 a,.val false [.i .i64 (i:Int)]],[])∧(∀ j,j < i→nameOk (tAt a j)=true)∧i≤a.length∧n=a.length - i) ?_ ?_
  · exact ⟨rfl,a.length,0,rfl,nolt _,Nat.zero_le _,rfl⟩
  rintro n st ⟨i,rfl,hI,hle,rfl⟩
  repeat' first
    | (refine And.intro ?_ ?_)
    | (intro h;simp only [reduceCtorEq] at h;done)
    | (intro h;rw [h])
    | (intro h)
  all_goals first
    | (show lowEdges _=true;kernel_rfl)|(show logOk _ _=true;kernel_rfl)|exact True.intro|exact Or.inr rfl|exact Or.inl rfl
    | with_reducible exact Int.natCast_nonneg _
    | (have hi:i < a.length:=ltN (by with_reducible assumption)
       first
         | with_reducible exact of_decide_eq_true (by with_reducible assumption)
         | (show (Int.toNat (i:Int)) < _;rw [Int.toNat_natCast];exact hi)
         | (show (i:Int) < _;omega)
           | exact ⟨_,rfl⟩
           | exact ⟨_,_,_,rfl⟩
           | exact resBs hi (of_notT (by with_reducible assumption))
           | (refine resBe hI hi ?_;simp_all only [Bool.not_eq_true',Bool.not_eq_false',Bool.not_true,Bool.not_false,Bool.or_true,Bool.true_or,Bool.or_false,Bool.false_or,Bool.and_true,Bool.true_and,Bool.and_false,Bool.false_and,Bool.not_not];done)
           | (refine ⟨a.length - (i+1),by omega,i+1,?_,all_succ hI (P:=fun j=>nameOk (tAt a j)) ?_,by omega,rfl⟩
              · exact congrArg (fun z:Int=>(([argS 9 a,.val false [.i .i64 z]],[]):Snap)) (wrapN hi hl)
              · exact of_notF (by with_reducible assumption)))
    | (have hi:¬ i < a.length:=nltN (by with_reducible assumption)
       first
           | exact ⟨_,rfl⟩
           | exact ⟨_,_,_,rfl⟩
           | exact resBs hi (of_notT (by with_reducible assumption))
           | (refine resBe hI hi ?_;simp_all only [Bool.not_eq_true',Bool.not_eq_false',Bool.not_true,Bool.not_false,Bool.or_true,Bool.true_or,Bool.or_false,Bool.false_or,Bool.and_true,Bool.true_and,Bool.and_false,Bool.false_and,Bool.not_not];done)
           | (refine ⟨a.length - (i+1),by omega,i+1,?_,all_succ hI (P:=fun j=>nameOk (tAt a j)) ?_,by omega,rfl⟩
              · exact congrArg (fun z:Int=>(([argS 9 a,.val false [.i .i64 z]],[]):Snap)) (wrapN hi hl)
              · exact of_notF (by with_reducible assumption)))
    | (show Alive _ _;exact rfl)
    | exact absurd (show (!false)=false by with_reducible assumption) (by decide)
    | exact absurd (show (!true)=true by with_reducible assumption) (by decide)
    | skip
theorem xk188:FOk Tryz.prog T 188 (spSB 9 colsOk):=by
  refine fok (env:=envL [(215,(spTB nameOk)),(50,spIn),(216,(spSB 9 distT))]) (N:=22) tabT (envL_cons xk215 (envL_cons ok50 (envL_cons xk216 envL_nil))) mixed Tryz.func188 rfl Tryz.call188 Tryz.ntmps188 ?_
  rintro args ⟨a,rfl⟩ hwf
  have hl:a.length≤maxLen:=(show WfD T (.l 9) (.l a) from arg0 hwf (List.mem_singleton_self _)).len
  refine ⟨by simp,?_⟩
  clear hwf
  rw [Tryz.results188]
  repeat' first
    | (refine And.intro ?_ ?_)
    | (intro h;simp only [reduceCtorEq] at h;done)
    | (intro h;rw [h])
    | (intro h)
  all_goals first
    | (show lowEdges _=true;kernel_rfl)|(show logOk _ _=true;kernel_rfl)|exact True.intro|exact Or.inr rfl|exact Or.inl rfl
    | skip
  refine awp_loop (Q:=_) [0,5,6,7] [] (fun n st=>∃ i:Nat,st=([argS 9 a,argS 9 a,.val false [.i .i64 a.length],.val false [.i .i64 (i:Int)]],[])∧(∀ j,j < i→nameOk (tAt a j)=true)∧i≤a.length∧n=a.length - i) ?_ ?_
  · exact ⟨rfl,a.length,0,rfl,nolt _,Nat.zero_le _,rfl⟩
  rintro n st ⟨i,rfl,hI,hle,rfl⟩
  repeat' first
    | (refine And.intro ?_ ?_)
    | (intro h;simp only [reduceCtorEq] at h;done)
    | (intro h;rw [h])
    | (intro h)
  all_goals first
    | (show lowEdges _=true;kernel_rfl)|(show logOk _ _=true;kernel_rfl)|exact True.intro|exact Or.inr rfl|exact Or.inl rfl
    | with_reducible exact Int.natCast_nonneg _
    | (have hi:i < a.length:=ltN (by with_reducible assumption)
       first
         | with_reducible exact of_decide_eq_true (by with_reducible assumption)
         | (show (Int.toNat (i:Int)) < _;rw [Int.toNat_natCast];exact hi)
         | (show (i:Int) < _;omega)
           | exact ⟨_,rfl⟩
           | exact ⟨_,_,_,rfl⟩
           | exact resBs hi (of_notT (by with_reducible assumption))
           | (refine resBe hI hi ?_;simp_all only [Bool.not_eq_true',Bool.not_eq_false',Bool.not_true,Bool.not_false,Bool.or_true,Bool.true_or,Bool.or_false,Bool.false_or,Bool.and_true,Bool.true_and,Bool.and_false,Bool.false_and,Bool.not_not];done)
           | (refine ⟨a.length - (i+1),by omega,i+1,?_,all_succ hI (P:=fun j=>nameOk (tAt a j)) ?_,by omega,rfl⟩
              · exact congrArg (fun z:Int=>(([argS 9 a,argS 9 a,.val false [.i .i64 a.length],.val false [.i .i64 z]],[]):Snap)) (wrapN hi hl)
              · exact of_notF (by with_reducible assumption)))
    | (have hi:¬ i < a.length:=nltN (by with_reducible assumption)
       first
           | exact ⟨_,rfl⟩
           | exact ⟨_,_,_,rfl⟩
           | exact resBs hi (of_notT (by with_reducible assumption))
           | (refine resBe hI hi ?_;simp_all only [Bool.not_eq_true',Bool.not_eq_false',Bool.not_true,Bool.not_false,Bool.or_true,Bool.true_or,Bool.or_false,Bool.false_or,Bool.and_true,Bool.true_and,Bool.and_false,Bool.false_and,Bool.not_not];done)
           | (refine ⟨a.length - (i+1),by omega,i+1,?_,all_succ hI (P:=fun j=>nameOk (tAt a j)) ?_,by omega,rfl⟩
              · exact congrArg (fun z:Int=>(([argS 9 a,argS 9 a,.val false [.i .i64 a.length],.val false [.i .i64 z]],[]):Snap)) (wrapN hi hl)
              · exact of_notF (by with_reducible assumption)))
    | (show Alive _ _;exact rfl)
    | exact absurd (show (!false)=false by with_reducible assumption) (by decide)
    | exact absurd (show (!true)=true by with_reducible assumption) (by decide)
    | skip
end Go.Proofs.YtkpnfbdoaljkpaaGreatDoor.Ab
