/- Names, columns, rows, exactly: printed by a program of this claim. -/
import Derived.Test.YtppgalpldaibhaaGreatDoorDYa
import Derived.Test.YtppgalpldaibhaaGreatDoorDVb
namespace Go.Proofs.YtppgalpldaibhaaGreatDoor.Ab
open Go.RowKit
set_option linter.unusedVariables false
set_option linter.unusedSimpArgs false
set_option maxRecDepth 100000
set_option maxHeartbeats 2000000
theorem xk81:FOk Tryz.prog T 81 (spTB okTxt):=by
  refine fok (env:=envL []) (N:=29) tabT envL_nil mixed Tryz.func81 rfl Tryz.call81 Tryz.ntmps81 ?_
  rintro args ⟨s,rfl⟩ hwf
  have hl:s.size≤maxLen:=arg0 hwf (List.mem_singleton_self _)
  refine ⟨by simp,?_⟩
  clear hwf
  rw [Tryz.results81]
  repeat' first
    | (refine And.intro ?_ ?_)
    | (intro h;simp only [reduceCtorEq] at h;done)
    | (intro h;rw [h])
    | (intro h)
  all_goals first
    | (show lowEdges _=true;kernel_rfl)|(show logOk _ _=true;kernel_rfl)|exact True.intro|exact Or.inr rfl|exact Or.inl rfl
    | skip
  refine awp_loop (Q:=_) [0,3] [] (fun n st=>∃ i:Nat,st=([sArg s,.val false [.i .i64 (i:Int)]],[])∧(∀ j,j < i→txtByte (bAt s j)=true)∧i≤s.size∧n=s.size - i) ?_ ?_
  · exact ⟨rfl,s.size,0,rfl,nolt _,Nat.zero_le _,rfl⟩
  rintro n st ⟨i,rfl,hI,hle,rfl⟩
  repeat' first
    | (refine And.intro ?_ ?_)
    | (intro h;simp only [reduceCtorEq] at h;done)
    | (intro h;rw [h])
    | (intro h)
  all_goals first
    | (show lowEdges _=true;kernel_rfl)|(show logOk _ _=true;kernel_rfl)|exact True.intro|exact Or.inr rfl|exact Or.inl rfl
    | with_reducible exact Int.natCast_nonneg _
    | (have hi:i < s.size:=ltN (by with_reducible assumption)
       first
         | with_reducible exact of_decide_eq_true (by with_reducible assumption)
         | (show (Int.toNat (i:Int)) < _;rw [Int.toNat_natCast];exact hi)
         | (show (i:Int) < _;omega)
           | exact ⟨_,_,_,rfl⟩
           | (unfold okTxt;refine resBs (i:=i) (P:=fun j=>txtByte (bAt s j)) hi ?_;first|(show _=_;simp_all only [txtByte,Bool.not_eq_true',Bool.not_eq_false',Bool.not_true,Bool.not_false,Bool.or_true,Bool.true_or,Bool.or_false,Bool.false_or,Bool.and_true,Bool.true_and,Bool.and_false,Bool.false_and,Bool.not_not];done)|skip;done)
           | (unfold okTxt;exact resBe (P:=fun j=>txtByte (bAt s j)) hI hi rfl)
           | (refine ⟨s.size - (i+1),by omega,i+1,?_,all_succ hI (P:=fun j=>txtByte (bAt s j)) ?_,by omega,rfl⟩
              · exact congrArg (fun z:Int=>(([sArg s,.val false [.i .i64 z]],[]):Snap)) (wrapN hi hl)
              · first|(show _=_;simp_all only [txtByte,Bool.not_eq_true',Bool.not_eq_false',Bool.not_true,Bool.not_false,Bool.or_true,Bool.true_or,Bool.or_false,Bool.false_or,Bool.and_true,Bool.true_and,Bool.and_false,Bool.false_and,Bool.not_not];done)|skip;done))
    | (have hi:¬ i < s.size:=nltN (by with_reducible assumption)
       first
           | exact ⟨_,_,_,rfl⟩
           | (unfold okTxt;refine resBs (i:=i) (P:=fun j=>txtByte (bAt s j)) hi ?_;first|(show _=_;simp_all only [txtByte,Bool.not_eq_true',Bool.not_eq_false',Bool.not_true,Bool.not_false,Bool.or_true,Bool.true_or,Bool.or_false,Bool.false_or,Bool.and_true,Bool.true_and,Bool.and_false,Bool.false_and,Bool.not_not];done)|skip;done)
           | (unfold okTxt;exact resBe (P:=fun j=>txtByte (bAt s j)) hI hi rfl)
           | (refine ⟨s.size - (i+1),by omega,i+1,?_,all_succ hI (P:=fun j=>txtByte (bAt s j)) ?_,by omega,rfl⟩
              · exact congrArg (fun z:Int=>(([sArg s,.val false [.i .i64 z]],[]):Snap)) (wrapN hi hl)
              · first|(show _=_;simp_all only [txtByte,Bool.not_eq_true',Bool.not_eq_false',Bool.not_true,Bool.not_false,Bool.or_true,Bool.true_or,Bool.or_false,Bool.false_or,Bool.and_true,Bool.true_and,Bool.and_false,Bool.false_and,Bool.not_not];done)|skip;done))
    | (show Alive _ _;exact rfl)
    | exact absurd (show (!false)=false by with_reducible assumption) (by decide)
    | exact absurd (show (!true)=true by with_reducible assumption) (by decide)
    | skip
theorem xk146:FOk Tryz.prog T 146 (spTB okTxt):=by
  refine fok (env:=envL []) (N:=29) tabT envL_nil mixed Tryz.func146 rfl Tryz.call146 Tryz.ntmps146 ?_
  rintro args ⟨s,rfl⟩ hwf
  have hl:s.size≤maxLen:=arg0 hwf (List.mem_singleton_self _)
  refine ⟨by simp,?_⟩
  clear hwf
  rw [Tryz.results146]
  repeat' first
    | (refine And.intro ?_ ?_)
    | (intro h;simp only [reduceCtorEq] at h;done)
    | (intro h;rw [h])
    | (intro h)
  all_goals first
    | (show lowEdges _=true;kernel_rfl)|(show logOk _ _=true;kernel_rfl)|exact True.intro|exact Or.inr rfl|exact Or.inl rfl
    | skip
  refine awp_loop (Q:=_) [0,3] [] (fun n st=>∃ i:Nat,st=([sArg s,.val false [.i .i64 (i:Int)]],[])∧(∀ j,j < i→txtByte (bAt s j)=true)∧i≤s.size∧n=s.size - i) ?_ ?_
  · exact ⟨rfl,s.size,0,rfl,nolt _,Nat.zero_le _,rfl⟩
  rintro n st ⟨i,rfl,hI,hle,rfl⟩
  repeat' first
    | (refine And.intro ?_ ?_)
    | (intro h;simp only [reduceCtorEq] at h;done)
    | (intro h;rw [h])
    | (intro h)
  all_goals first
    | (show lowEdges _=true;kernel_rfl)|(show logOk _ _=true;kernel_rfl)|exact True.intro|exact Or.inr rfl|exact Or.inl rfl
    | with_reducible exact Int.natCast_nonneg _
    | (have hi:i < s.size:=ltN (by with_reducible assumption)
       first
         | with_reducible exact of_decide_eq_true (by with_reducible assumption)
         | (show (Int.toNat (i:Int)) < _;rw [Int.toNat_natCast];exact hi)
         | (show (i:Int) < _;omega)
           | exact ⟨_,_,_,rfl⟩
           | (unfold okTxt;refine resBs (i:=i) (P:=fun j=>txtByte (bAt s j)) hi ?_;first|(show _=_;simp_all only [txtByte,Bool.not_eq_true',Bool.not_eq_false',Bool.not_true,Bool.not_false,Bool.or_true,Bool.true_or,Bool.or_false,Bool.false_or,Bool.and_true,Bool.true_and,Bool.and_false,Bool.false_and,Bool.not_not];done)|skip;done)
           | (unfold okTxt;exact resBe (P:=fun j=>txtByte (bAt s j)) hI hi rfl)
           | (refine ⟨s.size - (i+1),by omega,i+1,?_,all_succ hI (P:=fun j=>txtByte (bAt s j)) ?_,by omega,rfl⟩
              · exact congrArg (fun z:Int=>(([sArg s,.val false [.i .i64 z]],[]):Snap)) (wrapN hi hl)
              · first|(show _=_;simp_all only [txtByte,Bool.not_eq_true',Bool.not_eq_false',Bool.not_true,Bool.not_false,Bool.or_true,Bool.true_or,Bool.or_false,Bool.false_or,Bool.and_true,Bool.true_and,Bool.and_false,Bool.false_and,Bool.not_not];done)|skip;done))
    | (have hi:¬ i < s.size:=nltN (by with_reducible assumption)
       first
           | exact ⟨_,_,_,rfl⟩
           | (unfold okTxt;refine resBs (i:=i) (P:=fun j=>txtByte (bAt s j)) hi ?_;first|(show _=_;simp_all only [txtByte,Bool.not_eq_true',Bool.not_eq_false',Bool.not_true,Bool.not_false,Bool.or_true,Bool.true_or,Bool.or_false,Bool.false_or,Bool.and_true,Bool.true_and,Bool.and_false,Bool.false_and,Bool.not_not];done)|skip;done)
           | (unfold okTxt;exact resBe (P:=fun j=>txtByte (bAt s j)) hI hi rfl)
           | (refine ⟨s.size - (i+1),by omega,i+1,?_,all_succ hI (P:=fun j=>txtByte (bAt s j)) ?_,by omega,rfl⟩
              · exact congrArg (fun z:Int=>(([sArg s,.val false [.i .i64 z]],[]):Snap)) (wrapN hi hl)
              · first|(show _=_;simp_all only [txtByte,Bool.not_eq_true',Bool.not_eq_false',Bool.not_true,Bool.not_false,Bool.or_true,Bool.true_or,Bool.or_false,Bool.false_or,Bool.and_true,Bool.true_and,Bool.and_false,Bool.false_and,Bool.not_not];done)|skip;done))
    | (show Alive _ _;exact rfl)
    | exact absurd (show (!false)=false by with_reducible assumption) (by decide)
    | exact absurd (show (!true)=true by with_reducible assumption) (by decide)
    | skip
theorem xk267:FOk Tryz.prog T 267 (spTB nameSh):=by
  refine fok (env:=envL []) (N:=45) tabT envL_nil mixed Tryz.func267 rfl Tryz.call267 Tryz.ntmps267 ?_
  rintro args ⟨s,rfl⟩ hwf
  have hl:s.size≤maxLen:=arg0 hwf (List.mem_singleton_self _)
  refine ⟨by simp,?_⟩
  clear hwf
  rw [Tryz.results267]
  repeat' first
    | (refine And.intro ?_ ?_)
    | (intro h;simp only [reduceCtorEq] at h;done)
    | (intro h;rw [h])
    | (intro h)
  all_goals first
    | (show lowEdges _=true;kernel_rfl)|(show logOk _ _=true;kernel_rfl)|exact True.intro|exact Or.inr rfl|exact Or.inl rfl
    | skip
  refine awp_loop (Q:=_) [0,3] [] (fun n st=>∃ i:Nat,st=([sArg s,.val false [.i .i64 (i:Int)]],[])∧(∀ j,j < i→wordB s j=true)∧i≤s.size∧n=s.size - i) ?_ ?_
  · exact ⟨rfl,s.size,0,rfl,nolt _,Nat.zero_le _,rfl⟩
  rintro n st ⟨i,rfl,hI,hle,rfl⟩
  repeat' first
    | (refine And.intro ?_ ?_)
    | (intro h;simp only [reduceCtorEq] at h;done)
    | (intro h;rw [h])
    | (intro h)
  all_goals first
    | (show lowEdges _=true;kernel_rfl)|(show logOk _ _=true;kernel_rfl)|exact True.intro|exact Or.inr rfl|exact Or.inl rfl
    | with_reducible exact Int.natCast_nonneg _
    | (have hi:i < s.size:=ltN (by with_reducible assumption)
       first
         | with_reducible exact of_decide_eq_true (by with_reducible assumption)
         | (show (Int.toNat (i:Int)) < _;rw [Int.toNat_natCast];exact hi)
         | (show (i:Int) < _;omega)
           | exact ⟨_,_,_,rfl⟩
           | (unfold nameSh;refine resBs (i:=i) (P:=fun j=>wordB s j) hi ?_;first|(show _=_;simp_all only [wordB,letB,digB,Bool.not_eq_true',Bool.not_eq_false',Bool.not_true,Bool.not_false,Bool.or_true,Bool.true_or,Bool.or_false,Bool.false_or,Bool.and_true,Bool.true_and,Bool.and_false,Bool.false_and,Bool.not_not];done)|skip;done)
           | (unfold nameSh;exact resBe (P:=fun j=>wordB s j) hI hi rfl)
           | (refine ⟨s.size - (i+1),by omega,i+1,?_,all_succ hI (P:=fun j=>wordB s j) ?_,by omega,rfl⟩
              · exact congrArg (fun z:Int=>(([sArg s,.val false [.i .i64 z]],[]):Snap)) (wrapN hi hl)
              · first|(show _=_;simp_all only [wordB,letB,digB,Bool.not_eq_true',Bool.not_eq_false',Bool.not_true,Bool.not_false,Bool.or_true,Bool.true_or,Bool.or_false,Bool.false_or,Bool.and_true,Bool.true_and,Bool.and_false,Bool.false_and,Bool.not_not];done)|skip;done))
    | (have hi:¬ i < s.size:=nltN (by with_reducible assumption)
       first
           | exact ⟨_,_,_,rfl⟩
           | (unfold nameSh;refine resBs (i:=i) (P:=fun j=>wordB s j) hi ?_;first|(show _=_;simp_all only [wordB,letB,digB,Bool.not_eq_true',Bool.not_eq_false',Bool.not_true,Bool.not_false,Bool.or_true,Bool.true_or,Bool.or_false,Bool.false_or,Bool.and_true,Bool.true_and,Bool.and_false,Bool.false_and,Bool.not_not];done)|skip;done)
           | (unfold nameSh;exact resBe (P:=fun j=>wordB s j) hI hi rfl)
           | (refine ⟨s.size - (i+1),by omega,i+1,?_,all_succ hI (P:=fun j=>wordB s j) ?_,by omega,rfl⟩
              · exact congrArg (fun z:Int=>(([sArg s,.val false [.i .i64 z]],[]):Snap)) (wrapN hi hl)
              · first|(show _=_;simp_all only [wordB,letB,digB,Bool.not_eq_true',Bool.not_eq_false',Bool.not_true,Bool.not_false,Bool.or_true,Bool.true_or,Bool.or_false,Bool.false_or,Bool.and_true,Bool.true_and,Bool.and_false,Bool.false_and,Bool.not_not];done)|skip;done))
    | (show Alive _ _;exact rfl)
    | exact absurd (show (!false)=false by with_reducible assumption) (by decide)
    | exact absurd (show (!true)=true by with_reducible assumption) (by decide)
    | skip
theorem xk300:FOk Tryz.prog T 300 (spTB nameIm):=by
  refine fok (env:=envL [(132,spIn)]) (N:=42) tabT (envL_cons ok132 envL_nil) mixed Tryz.func300 rfl Tryz.call300 Tryz.ntmps300 ?_
  rintro args ⟨s,rfl⟩ hwf
  have hl:s.size≤maxLen:=arg0 hwf (List.mem_singleton_self _)
  refine ⟨by simp,?_⟩
  clear hwf
  rw [Tryz.results300]
  repeat' first
    | (refine And.intro ?_ ?_)
    | (intro h;simp only [reduceCtorEq] at h;done)
    | (intro h;rw [h])
    | (intro h)
  all_goals first
    | (show lowEdges _=true;kernel_rfl)|(show logOk _ _=true;kernel_rfl)|exact True.intro|exact Or.inr rfl|exact Or.inl rfl
    | skip
  refine awp_loop (Q:=_) [0,3] [] (fun n st=>∃ i:Nat,st=([sArg s,.val false [.i .i64 (i:Int)]],[])∧(∀ j,j < i→wordB s j=true)∧i≤s.size∧n=s.size - i) ?_ ?_
  · exact ⟨rfl,s.size,0,rfl,nolt _,Nat.zero_le _,rfl⟩
  rintro n st ⟨i,rfl,hI,hle,rfl⟩
  repeat' first
    | (refine And.intro ?_ ?_)
    | (intro h;simp only [reduceCtorEq] at h;done)
    | (intro h;rw [h])
    | (intro h)
  all_goals first
    | (show lowEdges _=true;kernel_rfl)|(show logOk _ _=true;kernel_rfl)|exact True.intro|exact Or.inr rfl|exact Or.inl rfl
    | with_reducible exact Int.natCast_nonneg _
    | (have hi:i < s.size:=ltN (by with_reducible assumption)
       first
         | with_reducible exact of_decide_eq_true (by with_reducible assumption)
         | (show (Int.toNat (i:Int)) < _;rw [Int.toNat_natCast];exact hi)
         | (show (i:Int) < _;omega)
           | exact ⟨_,_,_,rfl⟩
           | (unfold nameIm;refine resBs (i:=i) (P:=fun j=>wordB s j) hi ?_;first|(show _=_;simp_all only [wordB,letB,digB,Bool.not_eq_true',Bool.not_eq_false',Bool.not_true,Bool.not_false,Bool.or_true,Bool.true_or,Bool.or_false,Bool.false_or,Bool.and_true,Bool.true_and,Bool.and_false,Bool.false_and,Bool.not_not];done)|(show _=_;simp_all only [wordB,letB,digB,lt48,gt57,Bool.not_eq_true',Bool.not_eq_false',Bool.not_true,Bool.not_false,Bool.or_true,Bool.true_or,Bool.or_false,Bool.false_or,Bool.and_true,Bool.true_and,Bool.and_false,Bool.false_and,Bool.not_not];done))
           | (unfold nameIm;exact resBe (P:=fun j=>wordB s j) hI hi rfl)
           | (refine ⟨s.size - (i+1),by omega,i+1,?_,all_succ hI (P:=fun j=>wordB s j) ?_,by omega,rfl⟩
              · exact congrArg (fun z:Int=>(([sArg s,.val false [.i .i64 z]],[]):Snap)) (wrapN hi hl)
              · first|(show _=_;simp_all only [wordB,letB,digB,Bool.not_eq_true',Bool.not_eq_false',Bool.not_true,Bool.not_false,Bool.or_true,Bool.true_or,Bool.or_false,Bool.false_or,Bool.and_true,Bool.true_and,Bool.and_false,Bool.false_and,Bool.not_not];done)|(show _=_;simp_all only [wordB,letB,digB,lt48,gt57,Bool.not_eq_true',Bool.not_eq_false',Bool.not_true,Bool.not_false,Bool.or_true,Bool.true_or,Bool.or_false,Bool.false_or,Bool.and_true,Bool.true_and,Bool.and_false,Bool.false_and,Bool.not_not];done)))
    | (have hi:¬ i < s.size:=nltN (by with_reducible assumption)
       first
           | exact ⟨_,_,_,rfl⟩
           | (unfold nameIm;refine resBs (i:=i) (P:=fun j=>wordB s j) hi ?_;first|(show _=_;simp_all only [wordB,letB,digB,Bool.not_eq_true',Bool.not_eq_false',Bool.not_true,Bool.not_false,Bool.or_true,Bool.true_or,Bool.or_false,Bool.false_or,Bool.and_true,Bool.true_and,Bool.and_false,Bool.false_and,Bool.not_not];done)|(show _=_;simp_all only [wordB,letB,digB,lt48,gt57,Bool.not_eq_true',Bool.not_eq_false',Bool.not_true,Bool.not_false,Bool.or_true,Bool.true_or,Bool.or_false,Bool.false_or,Bool.and_true,Bool.true_and,Bool.and_false,Bool.false_and,Bool.not_not];done))
           | (unfold nameIm;exact resBe (P:=fun j=>wordB s j) hI hi rfl)
           | (refine ⟨s.size - (i+1),by omega,i+1,?_,all_succ hI (P:=fun j=>wordB s j) ?_,by omega,rfl⟩
              · exact congrArg (fun z:Int=>(([sArg s,.val false [.i .i64 z]],[]):Snap)) (wrapN hi hl)
              · first|(show _=_;simp_all only [wordB,letB,digB,Bool.not_eq_true',Bool.not_eq_false',Bool.not_true,Bool.not_false,Bool.or_true,Bool.true_or,Bool.or_false,Bool.false_or,Bool.and_true,Bool.true_and,Bool.and_false,Bool.false_and,Bool.not_not];done)|(show _=_;simp_all only [wordB,letB,digB,lt48,gt57,Bool.not_eq_true',Bool.not_eq_false',Bool.not_true,Bool.not_false,Bool.or_true,Bool.true_or,Bool.or_false,Bool.false_or,Bool.and_true,Bool.true_and,Bool.and_false,Bool.false_and,Bool.not_not];done)))
    | (show Alive _ _;exact rfl)
    | exact absurd (show (!false)=false by with_reducible assumption) (by decide)
    | exact absurd (show (!true)=true by with_reducible assumption) (by decide)
    | skip
theorem xk309:FOk Tryz.prog T 309 (spWords resvB):=by
  refine fok (env:=envL []) (N:=2) tabT envL_nil mixed Tryz.func309 rfl Tryz.call309 Tryz.ntmps309 ?_
  rintro args rfl hwf
  refine ⟨by simp,?_⟩
  clear hwf
  rw [Tryz.results309]
  repeat' first
    | (refine And.intro ?_ ?_)
    | (intro h;simp only [reduceCtorEq] at h;done)
    | (intro h;rw [h])
    | (intro h)
  all_goals first
    | (show lowEdges _=true;kernel_rfl)|(show logOk _ _=true;kernel_rfl)|exact True.intro|exact Or.inr rfl|exact Or.inl rfl
    | exact rfl
    | omega
    | decide
    | skip
theorem xk269:FOk Tryz.prog T 269 (spSTB hasT):=by
  refine fok (env:=envL []) (N:=18) tabT envL_nil mixed Tryz.func269 rfl Tryz.call269 Tryz.ntmps269 ?_
  rintro args ⟨a,s,rfl⟩ hwf
  have hl:a.length≤maxLen:=(show WfD T (.l 9) (.l a) from arg0 hwf (List.mem_singleton_self _)).len
  refine ⟨by simp,?_⟩
  clear hwf
  rw [Tryz.results269]
  repeat' first
    | (refine And.intro ?_ ?_)
    | (intro h;simp only [reduceCtorEq] at h;done)
    | (intro h;rw [h])
    | (intro h)
  all_goals first
    | (show lowEdges _=true;kernel_rfl)|(show logOk _ _=true;kernel_rfl)|exact True.intro|exact Or.inr rfl|exact Or.inl rfl
    | skip
  refine awp_loop (Q:=_) [0,1,5] [] (fun n st=>∃ i:Nat,st=([argS 9 a,sArg s,.val false [.i .i64 (i:Int)]],[])∧(∀ j,j < i→(!isAt a s j)=true)∧i≤a.length∧n=a.length - i) ?_ ?_
  · exact ⟨rfl,a.length,0,rfl,nolt _,Nat.zero_le _,rfl⟩
  rintro n st ⟨i,rfl,hI,hle,rfl⟩
  repeat' first
    | (refine And.intro ?_ ?_)
    | (intro h;simp only [reduceCtorEq] at h;done)
    | (intro h;rw [h])
    | (intro h)
  all_goals first
    | (show lowEdges _=true;kernel_rfl)|(show logOk _ _=true;kernel_rfl)|exact True.intro|exact Or.inr rfl|exact Or.inl rfl
    | with_reducible exact Int.natCast_nonneg _
    | (have hi:i < a.length:=ltN (by with_reducible assumption)
       first
         | with_reducible exact of_decide_eq_true (by with_reducible assumption)
         | (show (Int.toNat (i:Int)) < _;rw [Int.toNat_natCast];exact hi)
         | (show (i:Int) < _;omega)
           | exact resBn (P:=fun j=>!isAt a s j) hi (notT (by with_reducible assumption))
           | exact resBm (P:=fun j=>!isAt a s j) hI hi
           | (refine ⟨a.length - (i+1),by omega,i+1,?_,all_succ hI (P:=fun j=>(!isAt a s j)) ?_,by omega,rfl⟩
              · exact congrArg (fun z:Int=>(([argS 9 a,sArg s,.val false [.i .i64 z]],[]):Snap)) (wrapN hi hl)
              · exact notF (by with_reducible assumption)))
    | (have hi:¬ i < a.length:=nltN (by with_reducible assumption)
       first
           | exact resBn (P:=fun j=>!isAt a s j) hi (notT (by with_reducible assumption))
           | exact resBm (P:=fun j=>!isAt a s j) hI hi
           | (refine ⟨a.length - (i+1),by omega,i+1,?_,all_succ hI (P:=fun j=>(!isAt a s j)) ?_,by omega,rfl⟩
              · exact congrArg (fun z:Int=>(([argS 9 a,sArg s,.val false [.i .i64 z]],[]):Snap)) (wrapN hi hl)
              · exact notF (by with_reducible assumption)))
    | (show Alive _ _;exact rfl)
    | exact absurd (show (!false)=false by with_reducible assumption) (by decide)
    | exact absurd (show (!true)=true by with_reducible assumption) (by decide)
    | skip
theorem xk235:FOk Tryz.prog T 235 (spSTI idxT):=by
  refine fok (env:=envL []) (N:=19) tabT envL_nil mixed Tryz.func235 rfl Tryz.call235 Tryz.ntmps235 ?_
  rintro args ⟨a,s,rfl⟩ hwf
  have hl:a.length≤maxLen:=(show WfD T (.l 9) (.l a) from arg0 hwf (List.mem_singleton_self _)).len
  refine ⟨by simp,?_⟩
  clear hwf
  rw [Tryz.results235]
  repeat' first
    | (refine And.intro ?_ ?_)
    | (intro h;simp only [reduceCtorEq] at h;done)
    | (intro h;rw [h])
    | (intro h)
  all_goals first
    | (show lowEdges _=true;kernel_rfl)|(show logOk _ _=true;kernel_rfl)|exact True.intro|exact Or.inr rfl|exact Or.inl rfl
    | skip
  refine awp_loop (Q:=_) [0,1,5] [] (fun n st=>∃ i:Nat,st=([argS 9 a,sArg s,.val false [.i .i64 (i:Int)]],[])∧(∀ j,j < i→(!isAt a s j)=true)∧i≤a.length∧n=a.length - i) ?_ ?_
  · exact ⟨rfl,a.length,0,rfl,nolt _,Nat.zero_le _,rfl⟩
  rintro n st ⟨i,rfl,hI,hle,rfl⟩
  repeat' first
    | (refine And.intro ?_ ?_)
    | (intro h;simp only [reduceCtorEq] at h;done)
    | (intro h;rw [h])
    | (intro h)
  all_goals first
    | (show lowEdges _=true;kernel_rfl)|(show logOk _ _=true;kernel_rfl)|exact True.intro|exact Or.inr rfl|exact Or.inl rfl
    | with_reducible exact Int.natCast_nonneg _
    | (have hi:i < a.length:=ltN (by with_reducible assumption)
       first
         | with_reducible exact of_decide_eq_true (by with_reducible assumption)
         | (show (Int.toNat (i:Int)) < _;rw [Int.toNat_natCast];exact hi)
         | (show (i:Int) < _;omega)
           | exact resIh (P:=isAt a s) hi (by with_reducible assumption) hI
           | exact resIn (P:=isAt a s) hI hi
           | (refine ⟨a.length - (i+1),by omega,i+1,?_,all_succ hI (P:=fun j=>(!isAt a s j)) ?_,by omega,rfl⟩
              · exact congrArg (fun z:Int=>(([argS 9 a,sArg s,.val false [.i .i64 z]],[]):Snap)) (wrapN hi hl)
              · exact notF (by with_reducible assumption)))
    | (have hi:¬ i < a.length:=nltN (by with_reducible assumption)
       first
           | exact resIh (P:=isAt a s) hi (by with_reducible assumption) hI
           | exact resIn (P:=isAt a s) hI hi
           | (refine ⟨a.length - (i+1),by omega,i+1,?_,all_succ hI (P:=fun j=>(!isAt a s j)) ?_,by omega,rfl⟩
              · exact congrArg (fun z:Int=>(([argS 9 a,sArg s,.val false [.i .i64 z]],[]):Snap)) (wrapN hi hl)
              · exact notF (by with_reducible assumption)))
    | (show Alive _ _;exact rfl)
    | exact absurd (show (!false)=false by with_reducible assumption) (by decide)
    | exact absurd (show (!true)=true by with_reducible assumption) (by decide)
    | skip
theorem xk226:FOk Tryz.prog T 226 (spSTI idxT):=by
  refine fok (env:=envL []) (N:=19) tabT envL_nil mixed Tryz.func226 rfl Tryz.call226 Tryz.ntmps226 ?_
  rintro args ⟨a,s,rfl⟩ hwf
  have hl:a.length≤maxLen:=(show WfD T (.l 9) (.l a) from arg0 hwf (List.mem_singleton_self _)).len
  refine ⟨by simp,?_⟩
  clear hwf
  rw [Tryz.results226]
  repeat' first
    | (refine And.intro ?_ ?_)
    | (intro h;simp only [reduceCtorEq] at h;done)
    | (intro h;rw [h])
    | (intro h)
  all_goals first
    | (show lowEdges _=true;kernel_rfl)|(show logOk _ _=true;kernel_rfl)|exact True.intro|exact Or.inr rfl|exact Or.inl rfl
    | skip
  refine awp_loop (Q:=_) [0,1,7,8,9] [] (fun n st=>∃ i:Nat,st=([argS 9 a,sArg s,argS 9 a,.val false [.i .i64 a.length],.val false [.i .i64 (i:Int)]],[])∧(∀ j,j < i→(!isAt a s j)=true)∧i≤a.length∧n=a.length - i) ?_ ?_
  · exact ⟨rfl,a.length,0,rfl,nolt _,Nat.zero_le _,rfl⟩
  rintro n st ⟨i,rfl,hI,hle,rfl⟩
  repeat' first
    | (refine And.intro ?_ ?_)
    | (intro h;simp only [reduceCtorEq] at h;done)
    | (intro h;rw [h])
    | (intro h)
  all_goals first
    | (show lowEdges _=true;kernel_rfl)|(show logOk _ _=true;kernel_rfl)|exact True.intro|exact Or.inr rfl|exact Or.inl rfl
    | with_reducible exact Int.natCast_nonneg _
    | (have hi:i < a.length:=ltN (by with_reducible assumption)
       first
         | with_reducible exact of_decide_eq_true (by with_reducible assumption)
         | (show (Int.toNat (i:Int)) < _;rw [Int.toNat_natCast];exact hi)
         | (show (i:Int) < _;omega)
           | exact resIh (P:=isAt a s) hi (by with_reducible assumption) hI
           | exact resIn (P:=isAt a s) hI hi
           | (refine ⟨a.length - (i+1),by omega,i+1,?_,all_succ hI (P:=fun j=>(!isAt a s j)) ?_,by omega,rfl⟩
              · exact congrArg (fun z:Int=>(([argS 9 a,sArg s,argS 9 a,.val false [.i .i64 a.length],.val false [.i .i64 z]],[]):Snap)) (wrapN hi hl)
              · exact notF (by with_reducible assumption)))
    | (have hi:¬ i < a.length:=nltN (by with_reducible assumption)
       first
           | exact resIh (P:=isAt a s) hi (by with_reducible assumption) hI
           | exact resIn (P:=isAt a s) hI hi
           | (refine ⟨a.length - (i+1),by omega,i+1,?_,all_succ hI (P:=fun j=>(!isAt a s j)) ?_,by omega,rfl⟩
              · exact congrArg (fun z:Int=>(([argS 9 a,sArg s,argS 9 a,.val false [.i .i64 a.length],.val false [.i .i64 z]],[]):Snap)) (wrapN hi hl)
              · exact notF (by with_reducible assumption)))
    | (show Alive _ _;exact rfl)
    | exact absurd (show (!false)=false by with_reducible assumption) (by decide)
    | exact absurd (show (!true)=true by with_reducible assumption) (by decide)
    | skip
theorem xk268:FOk Tryz.prog T 268 (spTB isResv):=by
  refine fok (env:=envL [(309,(spWords resvB)),(269,(spSTB hasT))]) (N:=6) tabT (envL_cons xk309 (envL_cons xk269 envL_nil)) mixed Tryz.func268 rfl Tryz.call268 Tryz.ntmps268 ?_
  rintro args ⟨s,rfl⟩ hwf
  refine ⟨by simp,?_⟩
  clear hwf
  rw [Tryz.results268]
  repeat' first
    | (refine And.intro ?_ ?_)
    | (intro h;simp only [reduceCtorEq] at h;done)
    | (intro h;rw [h])
    | (intro h)
  all_goals first
    | (show lowEdges _=true;kernel_rfl)|(show logOk _ _=true;kernel_rfl)|exact True.intro|exact Or.inr rfl|exact Or.inl rfl
    | exact rfl
    | exact ⟨_,_,rfl⟩
    | exact resB (hasT_resv s)
    | skip
theorem xk333:FOk Tryz.prog T 333 spArgC:=by
  refine fok (env:=envL []) (N:=26) tabT envL_nil mixed Tryz.func333 rfl Tryz.call333 Tryz.ntmps333 ?_
  rintro args ⟨s,rfl⟩ hwf
  refine ⟨by simp,?_⟩
  clear hwf
  rw [Tryz.results333]
  repeat' first
    | (refine And.intro ?_ ?_)
    | (intro h;simp only [reduceCtorEq] at h;done)
    | (intro h;rw [h])
    | (intro h)
  all_goals first
    | (show lowEdges _=true;kernel_rfl)|(show logOk _ _=true;kernel_rfl)|exact True.intro|exact Or.inr rfl|exact Or.inl rfl
    | exact rfl
    | exact ⟨_,rfl⟩
    | (refine resI ?_;simp only [argC, *,if_true,Bool.or_true,Bool.true_or,Bool.or_false,Bool.false_or];done)
    | (refine resI ?_;simp only [argC, *,if_true,Bool.or_true,Bool.true_or,Bool.or_false,Bool.false_or];rfl)
    | skip
theorem xk301:FOk Tryz.prog T 301 (spTB isResv):=by
  refine fok (env:=envL [(333,spArgC)]) (N:=15) tabT (envL_cons xk333 envL_nil) mixed Tryz.func301 rfl Tryz.call301 Tryz.ntmps301 ?_
  rintro args ⟨s,rfl⟩ hwf
  refine ⟨by simp,?_⟩
  clear hwf
  rw [Tryz.results301]
  repeat' first
    | (refine And.intro ?_ ?_)
    | (intro h;simp only [reduceCtorEq] at h;done)
    | (intro h;rw [h])
    | (intro h)
  all_goals first
    | (show lowEdges _=true;kernel_rfl)|(show logOk _ _=true;kernel_rfl)|exact True.intro|exact Or.inr rfl|exact Or.inl rfl
    | exact rfl
    | exact ⟨_,rfl⟩
    | (refine resB ((?_:_=resvI s).trans (resvI_eq s));simp only [resvI, *,Bool.or_true,Bool.true_or,Bool.or_false,Bool.false_or];done)
    | (refine resB ((?_:_=resvI s).trans (resvI_eq s));simp only [resvI, *,Bool.or_true,Bool.true_or,Bool.or_false,Bool.false_or];rfl)
    | skip
theorem xk232:FOk Tryz.prog T 232 (spTB nameOk):=by
  refine fok (env:=envL [(267,(spTB nameSh)),(268,(spTB isResv))]) (N:=15) tabT (envL_cons xk267 (envL_cons xk268 envL_nil)) mixed Tryz.func232 rfl Tryz.call232 Tryz.ntmps232 ?_
  rintro args ⟨s,rfl⟩ hwf
  refine ⟨by simp,?_⟩
  clear hwf
  rw [Tryz.results232]
  repeat' first
    | (refine And.intro ?_ ?_)
    | (intro h;simp only [reduceCtorEq] at h;done)
    | (intro h;rw [h])
    | (intro h)
  all_goals first
    | (show lowEdges _=true;kernel_rfl)|(show logOk _ _=true;kernel_rfl)|exact True.intro|exact Or.inr rfl|exact Or.inl rfl
    | exact rfl
    | exact ⟨_,rfl⟩
    | (refine resB ?_;simp_all only [nameOk,Bool.not_eq_true',Bool.not_eq_false',Bool.not_true,Bool.not_false,Bool.or_true,Bool.true_or,Bool.or_false,Bool.false_or,Bool.and_true,Bool.true_and,Bool.and_false,Bool.false_and,Bool.not_not];done)
    | skip
theorem xk260:FOk Tryz.prog T 260 (spTB nameOk):=by
  refine fok (env:=envL [(300,(spTB nameIm)),(301,(spTB isResv))]) (N:=10) tabT (envL_cons xk300 (envL_cons xk301 envL_nil)) mixed Tryz.func260 rfl Tryz.call260 Tryz.ntmps260 ?_
  rintro args ⟨s,rfl⟩ hwf
  refine ⟨by simp,?_⟩
  clear hwf
  rw [Tryz.results260]
  repeat' first
    | (refine And.intro ?_ ?_)
    | (intro h;simp only [reduceCtorEq] at h;done)
    | (intro h;rw [h])
    | (intro h)
  all_goals first
    | (show lowEdges _=true;kernel_rfl)|(show logOk _ _=true;kernel_rfl)|exact True.intro|exact Or.inr rfl|exact Or.inl rfl
    | exact rfl
    | exact ⟨_,rfl⟩
    | (refine resB ((?_:_=(nameIm s && !isResv s)).trans (nameIm_eq s));simp_all only [Bool.not_eq_true',Bool.not_eq_false',Bool.not_true,Bool.not_false,Bool.or_true,Bool.true_or,Bool.or_false,Bool.false_or,Bool.and_true,Bool.true_and,Bool.and_false,Bool.false_and,Bool.not_not];done)
    | skip
theorem xk233:FOk Tryz.prog T 233 (spSB 9 distT):=by
  refine fok (env:=envL [(269,(spSTB hasT))]) (N:=18) tabT (envL_cons xk269 envL_nil) mixed Tryz.func233 rfl Tryz.call233 Tryz.ntmps233 ?_
  rintro args ⟨a,rfl⟩ hwf
  have hl:a.length≤maxLen:=(show WfD T (.l 9) (.l a) from arg0 hwf (List.mem_singleton_self _)).len
  refine ⟨by simp,?_⟩
  clear hwf
  rw [Tryz.results233]
  repeat' first
    | (refine And.intro ?_ ?_)
    | (intro h;simp only [reduceCtorEq] at h;done)
    | (intro h;rw [h])
    | (intro h)
  all_goals first
    | (show lowEdges _=true;kernel_rfl)|(show logOk _ _=true;kernel_rfl)|exact True.intro|exact Or.inr rfl|exact Or.inl rfl
    | skip
  refine awp_loop (Q:=_) [0,3] [] (fun n st=>∃ i:Nat,st=([argS 9 a,.val false [.i .i64 (i:Int)]],[])∧(∀ j,j < i→(!hasT (a.take j) (tAt a j))=true)∧i≤a.length∧n=a.length - i) ?_ ?_
  · exact ⟨rfl,a.length,0,rfl,nolt _,Nat.zero_le _,rfl⟩
  rintro n st ⟨i,rfl,hI,hle,rfl⟩
  repeat' first
    | (refine And.intro ?_ ?_)
    | (intro h;simp only [reduceCtorEq] at h;done)
    | (intro h;rw [h])
    | (intro h)
  all_goals first
    | (show lowEdges _=true;kernel_rfl)|(show logOk _ _=true;kernel_rfl)|exact True.intro|exact Or.inr rfl|exact Or.inl rfl
    | with_reducible exact Int.natCast_nonneg _
    | (have hi:i < a.length:=ltN (by with_reducible assumption)
       first
         | with_reducible exact of_decide_eq_true (by with_reducible assumption)
         | (show (Int.toNat (i:Int)) < _;rw [Int.toNat_natCast];exact hi)
         | (show (i:Int) < _;omega)
           | exact ⟨_,_,rfl⟩
           | (show (i:Int)≤_;omega)
           | (show i≤_;omega)
           | exact Int.le_refl _
           | exact resBs' (P:=fun j=>!hasT (a.take j) (tAt a j)) hi (notT (b:=hasT (a.take i) (tAt a i)) (show hasT (List.drop (Int.toNat 0) (List.take (Int.toNat (i:Int)) a)) (tAt a i)=true by with_reducible assumption))
           | (unfold distT;exact resBe' hI hi)
           | (refine ⟨a.length - (i+1),by omega,i+1,?_,all_succ hI (P:=fun j=>(!hasT (a.take j) (tAt a j))) ?_,by omega,rfl⟩
              · exact congrArg (fun z:Int=>(([argS 9 a,.val false [.i .i64 z]],[]):Snap)) (wrapN hi hl)
              · exact notF (b:=hasT (a.take i) (tAt a i)) (show hasT (List.drop (Int.toNat 0) (List.take (Int.toNat (i:Int)) a)) (tAt a i)=false by with_reducible assumption)))
    | (have hi:¬ i < a.length:=nltN (by with_reducible assumption)
       first
           | exact ⟨_,_,rfl⟩
           | (show (i:Int)≤_;omega)
           | (show i≤_;omega)
           | exact Int.le_refl _
           | exact resBs' (P:=fun j=>!hasT (a.take j) (tAt a j)) hi (notT (b:=hasT (a.take i) (tAt a i)) (show hasT (List.drop (Int.toNat 0) (List.take (Int.toNat (i:Int)) a)) (tAt a i)=true by with_reducible assumption))
           | (unfold distT;exact resBe' hI hi)
           | (refine ⟨a.length - (i+1),by omega,i+1,?_,all_succ hI (P:=fun j=>(!hasT (a.take j) (tAt a j))) ?_,by omega,rfl⟩
              · exact congrArg (fun z:Int=>(([argS 9 a,.val false [.i .i64 z]],[]):Snap)) (wrapN hi hl)
              · exact notF (b:=hasT (a.take i) (tAt a i)) (show hasT (List.drop (Int.toNat 0) (List.take (Int.toNat (i:Int)) a)) (tAt a i)=false by with_reducible assumption)))
    | (show Alive _ _;exact rfl)
    | exact absurd (show (!false)=false by with_reducible assumption) (by decide)
    | exact absurd (show (!true)=true by with_reducible assumption) (by decide)
    | skip
theorem xk261:FOk Tryz.prog T 261 (spSB 9 distT):=by
  refine fok (env:=envL [(226,(spSTI idxT))]) (N:=18) tabT (envL_cons xk226 envL_nil) mixed Tryz.func261 rfl Tryz.call261 Tryz.ntmps261 ?_
  rintro args ⟨a,rfl⟩ hwf
  have hl:a.length≤maxLen:=(show WfD T (.l 9) (.l a) from arg0 hwf (List.mem_singleton_self _)).len
  refine ⟨by simp,?_⟩
  clear hwf
  rw [Tryz.results261]
  repeat' first
    | (refine And.intro ?_ ?_)
    | (intro h;simp only [reduceCtorEq] at h;done)
    | (intro h;rw [h])
    | (intro h)
  all_goals first
    | (show lowEdges _=true;kernel_rfl)|(show logOk _ _=true;kernel_rfl)|exact True.intro|exact Or.inr rfl|exact Or.inl rfl
    | skip
  refine awp_loop (Q:=_) [0,5,6,7] [] (fun n st=>∃ i:Nat,st=([argS 9 a,argS 9 a,.val false [.i .i64 a.length],.val false [.i .i64 (i:Int)]],[])∧(∀ j,j < i→(!hasT (a.take j) (tAt a j))=true)∧i≤a.length∧n=a.length - i) ?_ ?_
  · exact ⟨rfl,a.length,0,rfl,nolt _,Nat.zero_le _,rfl⟩
  rintro n st ⟨i,rfl,hI,hle,rfl⟩
  repeat' first
    | (refine And.intro ?_ ?_)
    | (intro h;simp only [reduceCtorEq] at h;done)
    | (intro h;rw [h])
    | (intro h)
  all_goals first
    | (show lowEdges _=true;kernel_rfl)|(show logOk _ _=true;kernel_rfl)|exact True.intro|exact Or.inr rfl|exact Or.inl rfl
    | with_reducible exact Int.natCast_nonneg _
    | (have hi:i < a.length:=ltN (by with_reducible assumption)
       first
         | with_reducible exact of_decide_eq_true (by with_reducible assumption)
         | (show (Int.toNat (i:Int)) < _;rw [Int.toNat_natCast];exact hi)
         | (show (i:Int) < _;omega)
           | exact ⟨_,_,rfl⟩
           | exact resBs' (P:=fun j=>!hasT (a.take j) (tAt a j)) hi (dist_no hi (by with_reducible assumption))
           | (unfold distT;exact resBe' hI hi)
           | (refine ⟨a.length - (i+1),by omega,i+1,?_,all_succ hI (P:=fun j=>(!hasT (a.take j) (tAt a j))) ?_,by omega,rfl⟩
              · exact congrArg (fun z:Int=>(([argS 9 a,argS 9 a,.val false [.i .i64 a.length],.val false [.i .i64 z]],[]):Snap)) (wrapN hi hl)
              · exact dist_yes hi (by with_reducible assumption)))
    | (have hi:¬ i < a.length:=nltN (by with_reducible assumption)
       first
           | exact ⟨_,_,rfl⟩
           | exact resBs' (P:=fun j=>!hasT (a.take j) (tAt a j)) hi (dist_no hi (by with_reducible assumption))
           | (unfold distT;exact resBe' hI hi)
           | (refine ⟨a.length - (i+1),by omega,i+1,?_,all_succ hI (P:=fun j=>(!hasT (a.take j) (tAt a j))) ?_,by omega,rfl⟩
              · exact congrArg (fun z:Int=>(([argS 9 a,argS 9 a,.val false [.i .i64 a.length],.val false [.i .i64 z]],[]):Snap)) (wrapN hi hl)
              · exact dist_yes hi (by with_reducible assumption)))
    | (show Alive _ _;exact rfl)
    | exact absurd (show (!false)=false by with_reducible assumption) (by decide)
    | exact absurd (show (!true)=true by with_reducible assumption) (by decide)
    | skip
theorem xk161:FOk Tryz.prog T 161 (spSB 9 colsOk):=by
  refine fok (env:=envL [(232,(spTB nameOk)),(84,spIn),(233,(spSB 9 distT))]) (N:=23) tabT (envL_cons xk232 (envL_cons ok84 (envL_cons xk233 envL_nil))) mixed Tryz.func161 rfl Tryz.call161 Tryz.ntmps161 ?_
  rintro args ⟨a,rfl⟩ hwf
  have hl:a.length≤maxLen:=(show WfD T (.l 9) (.l a) from arg0 hwf (List.mem_singleton_self _)).len
  refine ⟨by simp,?_⟩
  clear hwf
  rw [Tryz.results161]
  repeat' first
    | (refine And.intro ?_ ?_)
    | (intro h;simp only [reduceCtorEq] at h;done)
    | (intro h;rw [h])
    | (intro h)
  all_goals first
    | (show lowEdges _=true;kernel_rfl)|(show logOk _ _=true;kernel_rfl)|exact True.intro|exact Or.inr rfl|exact Or.inl rfl
    | skip
  refine awp_loop (Q:=_) [0,3] [] (fun n st=>∃ i:Nat,st=([argS 9 a,.val false [.i .i64 (i:Int)]],[])∧(∀ j,j < i→nameOk (tAt a j)=true)∧i≤a.length∧n=a.length - i) ?_ ?_
  · exact ⟨rfl,a.length,0,rfl,nolt _,Nat.zero_le _,rfl⟩
  rintro n st ⟨i,rfl,hI,hle,rfl⟩
  repeat' first
    | (refine And.intro ?_ ?_)
    | (intro h;simp only [reduceCtorEq] at h;done)
    | (intro h;rw [h])
    | (intro h)
  all_goals first
    | (show lowEdges _=true;kernel_rfl)|(show logOk _ _=true;kernel_rfl)|exact True.intro|exact Or.inr rfl|exact Or.inl rfl
    | with_reducible exact Int.natCast_nonneg _
    | (have hi:i < a.length:=ltN (by with_reducible assumption)
       first
         | with_reducible exact of_decide_eq_true (by with_reducible assumption)
         | (show (Int.toNat (i:Int)) < _;rw [Int.toNat_natCast];exact hi)
         | (show (i:Int) < _;omega)
           | exact ⟨_,rfl⟩
           | exact ⟨_,_,_,rfl⟩
           | exact resBs hi (of_notT (by with_reducible assumption))
           | (refine resBe hI hi ?_;simp_all only [Bool.not_eq_true',Bool.not_eq_false',Bool.not_true,Bool.not_false,Bool.or_true,Bool.true_or,Bool.or_false,Bool.false_or,Bool.and_true,Bool.true_and,Bool.and_false,Bool.false_and,Bool.not_not];done)
           | (refine ⟨a.length - (i+1),by omega,i+1,?_,all_succ hI (P:=fun j=>nameOk (tAt a j)) ?_,by omega,rfl⟩
              · exact congrArg (fun z:Int=>(([argS 9 a,.val false [.i .i64 z]],[]):Snap)) (wrapN hi hl)
              · exact of_notF (by with_reducible assumption)))
    | (have hi:¬ i < a.length:=nltN (by with_reducible assumption)
       first
           | exact ⟨_,rfl⟩
           | exact ⟨_,_,_,rfl⟩
           | exact resBs hi (of_notT (by with_reducible assumption))
           | (refine resBe hI hi ?_;simp_all only [Bool.not_eq_true',Bool.not_eq_false',Bool.not_true,Bool.not_false,Bool.or_true,Bool.true_or,Bool.or_false,Bool.false_or,Bool.and_true,Bool.true_and,Bool.and_false,Bool.false_and,Bool.not_not];done)
           | (refine ⟨a.length - (i+1),by omega,i+1,?_,all_succ hI (P:=fun j=>nameOk (tAt a j)) ?_,by omega,rfl⟩
              · exact congrArg (fun z:Int=>(([argS 9 a,.val false [.i .i64 z]],[]):Snap)) (wrapN hi hl)
              · exact of_notF (by with_reducible assumption)))
    | (show Alive _ _;exact rfl)
    | exact absurd (show (!false)=false by with_reducible assumption) (by decide)
    | exact absurd (show (!true)=true by with_reducible assumption) (by decide)
    | skip
theorem xk219:FOk Tryz.prog T 219 (spSB 9 colsOk):=by
  refine fok (env:=envL [(260,(spTB nameOk)),(132,spIn),(261,(spSB 9 distT))]) (N:=22) tabT (envL_cons xk260 (envL_cons ok132 (envL_cons xk261 envL_nil))) mixed Tryz.func219 rfl Tryz.call219 Tryz.ntmps219 ?_
  rintro args ⟨a,rfl⟩ hwf
  have hl:a.length≤maxLen:=(show WfD T (.l 9) (.l a) from arg0 hwf (List.mem_singleton_self _)).len
  refine ⟨by simp,?_⟩
  clear hwf
  rw [Tryz.results219]
  repeat' first
    | (refine And.intro ?_ ?_)
    | (intro h;simp only [reduceCtorEq] at h;done)
    | (intro h;rw [h])
    | (intro h)
  all_goals first
    | (show lowEdges _=true;kernel_rfl)|(show logOk _ _=true;kernel_rfl)|exact True.intro|exact Or.inr rfl|exact Or.inl rfl
    | skip
  refine awp_loop (Q:=_) [0,5,6,7] [] (fun n st=>∃ i:Nat,st=([argS 9 a,argS 9 a,.val false [.i .i64 a.length],.val false [.i .i64 (i:Int)]],[])∧(∀ j,j < i→nameOk (tAt a j)=true)∧i≤a.length∧n=a.length - i) ?_ ?_
  · exact ⟨rfl,a.length,0,rfl,nolt _,Nat.zero_le _,rfl⟩
  rintro n st ⟨i,rfl,hI,hle,rfl⟩
  repeat' first
    | (refine And.intro ?_ ?_)
    | (intro h;simp only [reduceCtorEq] at h;done)
    | (intro h;rw [h])
    | (intro h)
  all_goals first
    | (show lowEdges _=true;kernel_rfl)|(show logOk _ _=true;kernel_rfl)|exact True.intro|exact Or.inr rfl|exact Or.inl rfl
    | with_reducible exact Int.natCast_nonneg _
    | (have hi:i < a.length:=ltN (by with_reducible assumption)
       first
         | with_reducible exact of_decide_eq_true (by with_reducible assumption)
         | (show (Int.toNat (i:Int)) < _;rw [Int.toNat_natCast];exact hi)
         | (show (i:Int) < _;omega)
           | exact ⟨_,rfl⟩
           | exact ⟨_,_,_,rfl⟩
           | exact resBs hi (of_notT (by with_reducible assumption))
           | (refine resBe hI hi ?_;simp_all only [Bool.not_eq_true',Bool.not_eq_false',Bool.not_true,Bool.not_false,Bool.or_true,Bool.true_or,Bool.or_false,Bool.false_or,Bool.and_true,Bool.true_and,Bool.and_false,Bool.false_and,Bool.not_not];done)
           | (refine ⟨a.length - (i+1),by omega,i+1,?_,all_succ hI (P:=fun j=>nameOk (tAt a j)) ?_,by omega,rfl⟩
              · exact congrArg (fun z:Int=>(([argS 9 a,argS 9 a,.val false [.i .i64 a.length],.val false [.i .i64 z]],[]):Snap)) (wrapN hi hl)
              · exact of_notF (by with_reducible assumption)))
    | (have hi:¬ i < a.length:=nltN (by with_reducible assumption)
       first
           | exact ⟨_,rfl⟩
           | exact ⟨_,_,_,rfl⟩
           | exact resBs hi (of_notT (by with_reducible assumption))
           | (refine resBe hI hi ?_;simp_all only [Bool.not_eq_true',Bool.not_eq_false',Bool.not_true,Bool.not_false,Bool.or_true,Bool.true_or,Bool.or_false,Bool.false_or,Bool.and_true,Bool.true_and,Bool.and_false,Bool.false_and,Bool.not_not];done)
           | (refine ⟨a.length - (i+1),by omega,i+1,?_,all_succ hI (P:=fun j=>nameOk (tAt a j)) ?_,by omega,rfl⟩
              · exact congrArg (fun z:Int=>(([argS 9 a,argS 9 a,.val false [.i .i64 a.length],.val false [.i .i64 z]],[]):Snap)) (wrapN hi hl)
              · exact of_notF (by with_reducible assumption)))
    | (show Alive _ _;exact rfl)
    | exact absurd (show (!false)=false by with_reducible assumption) (by decide)
    | exact absurd (show (!true)=true by with_reducible assumption) (by decide)
    | skip
end Go.Proofs.YtppgalpldaibhaaGreatDoor.Ab
