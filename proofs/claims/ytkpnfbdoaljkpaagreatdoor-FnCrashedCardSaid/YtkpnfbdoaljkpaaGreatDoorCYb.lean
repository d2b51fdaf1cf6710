/- Names, columns, rows, exactly: printed by a program of this -/
import Derived.Test.YtkpnfbdoaljkpaaGreatDoorCYs
import Derived.Test.YtkpnfbdoaljkpaaGreatDoorCVb
namespace Go.Proofs.YtkpnfbdoaljkpaaGreatDoor.Ab
open Go.RowKit
set_option linter.all false
set_option maxRecDepth 100000
set_option maxHeartbeats 2000000
theorem xk148:FOk Tryz.prog T 148 (spTB okTxt):=by
 refine fok (env:=envL []) (N:=29) tabT ae mixed Tryz.func148 rfl Tryz.call148 Tryz.ntmps148 ?_
 rintro args ⟨s,rfl⟩ hwf
 have hl:s.size≤maxLen:=arg0 hwf (jbb _)
 refine ⟨by simp,?_⟩
 clear hwf
 rw [Tryz.results148]
 repeat' first
  | (refine And.intro ?_ ?_)
  | (intro h;simp only [reduceCtorEq] at h;done)
  | (intro h;rw [h])
  | (intro h)
 all_goals first
  | (show ac _=true;kernel_rfl)|(show aj _ _=true;kernel_rfl)|exact True.intro|exact Or.inr rfl|exact Or.inl rfl
  | skip
 refine ar (Q:=_) [0,3] [] (fun n st=>∃ i:Nat,st=([sArg s,.val false [.i .i64 (i:Int)]],[])∧(∀ j,j < i→bc (bAt s j)=true)∧i≤s.size∧n=s.size - i) ?_ ?_
 · exact ⟨rfl,s.size,0,rfl,nolt _,jaU _,rfl⟩
 rintro n st ⟨i,rfl,hI,hle,rfl⟩
 repeat' first
  | (refine And.intro ?_ ?_)
  | (intro h;simp only [reduceCtorEq] at h;done)
  | (intro h;rw [h])
  | (intro h)
 all_goals first
  | (show ac _=true;kernel_rfl)|(show aj _ _=true;kernel_rfl)|exact True.intro|exact Or.inr rfl|exact Or.inl rfl
  | with_reducible exact ja7 _
  | (have hi:i < s.size:=ltN (by with_reducible assumption)
     first
      | with_reducible exact jaT (by with_reducible assumption)
      | (show (Int.toNat (i:Int)) < _;rw [jbf];exact hi)
      | (show (i:Int) < _;omega)
        | exact ⟨_,_,_,rfl⟩
        | (unfold okTxt;refine jX (i:=i) (P:=fun j=>bc (bAt s j)) hi ?_;first|(show _=_;simp_all only [bc,jbm,jbp,jbO,jbH,jbL,jbN,jbG,jbI,jbD,jbF,jbs,jbx,jbQ];done)|skip;done)
        | (unfold okTxt;exact jY (P:=fun j=>bc (bAt s j)) hI hi rfl)
        | (refine ⟨s.size - (i+1),by omega,i+1,?_,aZ hI (P:=fun j=>bc (bAt s j)) ?_,by omega,rfl⟩
           · exact congrArg (fun z:Int=>(([sArg s,.val false [.i .i64 z]],[]):Snap)) (wrapN hi hl)
           · first|(show _=_;simp_all only [bc,jbm,jbp,jbO,jbH,jbL,jbN,jbG,jbI,jbD,jbF,jbs,jbx,jbQ];done)|skip;done))
  | (have hi:¬ i < s.size:=nltN (by with_reducible assumption)
     first
      | exact ⟨_,_,_,rfl⟩
      | (unfold okTxt;refine jX (i:=i) (P:=fun j=>bc (bAt s j)) hi ?_;first|(show _=_;simp_all only [bc,jbm,jbp,jbO,jbH,jbL,jbN,jbG,jbI,jbD,jbF,jbs,jbx,jbQ];done)|skip;done)
      | (unfold okTxt;exact jY (P:=fun j=>bc (bAt s j)) hI hi rfl)
      | (refine ⟨s.size - (i+1),by omega,i+1,?_,aZ hI (P:=fun j=>bc (bAt s j)) ?_,by omega,rfl⟩
         · exact congrArg (fun z:Int=>(([sArg s,.val false [.i .i64 z]],[]):Snap)) (wrapN hi hl)
         · first|(show _=_;simp_all only [bc,jbm,jbp,jbO,jbH,jbL,jbN,jbG,jbI,jbD,jbF,jbs,jbx,jbQ];done)|skip;done))
  | (show aL _ _;exact rfl)
  | exact absurd (show (!false)=false by with_reducible assumption) (by decide)
  | exact absurd (show (!true)=true by with_reducible assumption) (by decide)
  | skip
theorem xk160:FOk Tryz.prog T 160 (spTB okTxt):=by
 refine fok (env:=envL []) (N:=29) tabT ae mixed Tryz.func160 rfl Tryz.call160 Tryz.ntmps160 ?_
 rintro args ⟨s,rfl⟩ hwf
 have hl:s.size≤maxLen:=arg0 hwf (jbb _)
 refine ⟨by simp,?_⟩
 clear hwf
 rw [Tryz.results160]
 repeat' first
  | (refine And.intro ?_ ?_)
  | (intro h;simp only [reduceCtorEq] at h;done)
  | (intro h;rw [h])
  | (intro h)
 all_goals first
  | (show ac _=true;kernel_rfl)|(show aj _ _=true;kernel_rfl)|exact True.intro|exact Or.inr rfl|exact Or.inl rfl
  | skip
 refine ar (Q:=_) [0,3] [] (fun n st=>∃ i:Nat,st=([sArg s,.val false [.i .i64 (i:Int)]],[])∧(∀ j,j < i→bc (bAt s j)=true)∧i≤s.size∧n=s.size - i) ?_ ?_
 · exact ⟨rfl,s.size,0,rfl,nolt _,jaU _,rfl⟩
 rintro n st ⟨i,rfl,hI,hle,rfl⟩
 repeat' first
  | (refine And.intro ?_ ?_)
  | (intro h;simp only [reduceCtorEq] at h;done)
  | (intro h;rw [h])
  | (intro h)
 all_goals first
  | (show ac _=true;kernel_rfl)|(show aj _ _=true;kernel_rfl)|exact True.intro|exact Or.inr rfl|exact Or.inl rfl
  | with_reducible exact ja7 _
  | (have hi:i < s.size:=ltN (by with_reducible assumption)
     first
      | with_reducible exact jaT (by with_reducible assumption)
      | (show (Int.toNat (i:Int)) < _;rw [jbf];exact hi)
      | (show (i:Int) < _;omega)
        | exact ⟨_,_,_,rfl⟩
        | (unfold okTxt;refine jX (i:=i) (P:=fun j=>bc (bAt s j)) hi ?_;first|(show _=_;simp_all only [bc,jbm,jbp,jbO,jbH,jbL,jbN,jbG,jbI,jbD,jbF,jbs,jbx,jbQ];done)|skip;done)
        | (unfold okTxt;exact jY (P:=fun j=>bc (bAt s j)) hI hi rfl)
        | (refine ⟨s.size - (i+1),by omega,i+1,?_,aZ hI (P:=fun j=>bc (bAt s j)) ?_,by omega,rfl⟩
           · exact congrArg (fun z:Int=>(([sArg s,.val false [.i .i64 z]],[]):Snap)) (wrapN hi hl)
           · first|(show _=_;simp_all only [bc,jbm,jbp,jbO,jbH,jbL,jbN,jbG,jbI,jbD,jbF,jbs,jbx,jbQ];done)|skip;done))
  | (have hi:¬ i < s.size:=nltN (by with_reducible assumption)
     first
      | exact ⟨_,_,_,rfl⟩
      | (unfold okTxt;refine jX (i:=i) (P:=fun j=>bc (bAt s j)) hi ?_;first|(show _=_;simp_all only [bc,jbm,jbp,jbO,jbH,jbL,jbN,jbG,jbI,jbD,jbF,jbs,jbx,jbQ];done)|skip;done)
      | (unfold okTxt;exact jY (P:=fun j=>bc (bAt s j)) hI hi rfl)
      | (refine ⟨s.size - (i+1),by omega,i+1,?_,aZ hI (P:=fun j=>bc (bAt s j)) ?_,by omega,rfl⟩
         · exact congrArg (fun z:Int=>(([sArg s,.val false [.i .i64 z]],[]):Snap)) (wrapN hi hl)
         · first|(show _=_;simp_all only [bc,jbm,jbp,jbO,jbH,jbL,jbN,jbG,jbI,jbD,jbF,jbs,jbx,jbQ];done)|skip;done))
  | (show aL _ _;exact rfl)
  | exact absurd (show (!false)=false by with_reducible assumption) (by decide)
  | exact absurd (show (!true)=true by with_reducible assumption) (by decide)
  | skip
theorem xk246:FOk Tryz.prog T 246 (spTB gk):=by
 refine fok (env:=envL []) (N:=45) tabT ae mixed Tryz.func246 rfl Tryz.call246 Tryz.ntmps246 ?_
 rintro args ⟨s,rfl⟩ hwf
 have hl:s.size≤maxLen:=arg0 hwf (jbb _)
 refine ⟨by simp,?_⟩
 clear hwf
 rw [Tryz.results246]
 repeat' first
  | (refine And.intro ?_ ?_)
  | (intro h;simp only [reduceCtorEq] at h;done)
  | (intro h;rw [h])
  | (intro h)
 all_goals first
  | (show ac _=true;kernel_rfl)|(show aj _ _=true;kernel_rfl)|exact True.intro|exact Or.inr rfl|exact Or.inl rfl
  | skip
 refine ar (Q:=_) [0,3] [] (fun n st=>∃ i:Nat,st=([sArg s,.val false [.i .i64 (i:Int)]],[])∧(∀ j,j < i→co s j=true)∧i≤s.size∧n=s.size - i) ?_ ?_
 · exact ⟨rfl,s.size,0,rfl,nolt _,jaU _,rfl⟩
 rintro n st ⟨i,rfl,hI,hle,rfl⟩
 repeat' first
  | (refine And.intro ?_ ?_)
  | (intro h;simp only [reduceCtorEq] at h;done)
  | (intro h;rw [h])
  | (intro h)
 all_goals first
  | (show ac _=true;kernel_rfl)|(show aj _ _=true;kernel_rfl)|exact True.intro|exact Or.inr rfl|exact Or.inl rfl
  | with_reducible exact ja7 _
  | (have hi:i < s.size:=ltN (by with_reducible assumption)
     first
      | with_reducible exact jaT (by with_reducible assumption)
      | (show (Int.toNat (i:Int)) < _;rw [jbf];exact hi)
      | (show (i:Int) < _;omega)
        | exact ⟨_,_,_,rfl⟩
        | (unfold gk;refine jX (i:=i) (P:=fun j=>co s j) hi ?_;first|(show _=_;simp_all only [co,letB,digB,jbm,jbp,jbO,jbH,jbL,jbN,jbG,jbI,jbD,jbF,jbs,jbx,jbQ];done)|skip;done)
        | (unfold gk;exact jY (P:=fun j=>co s j) hI hi rfl)
        | (refine ⟨s.size - (i+1),by omega,i+1,?_,aZ hI (P:=fun j=>co s j) ?_,by omega,rfl⟩
           · exact congrArg (fun z:Int=>(([sArg s,.val false [.i .i64 z]],[]):Snap)) (wrapN hi hl)
           · first|(show _=_;simp_all only [co,letB,digB,jbm,jbp,jbO,jbH,jbL,jbN,jbG,jbI,jbD,jbF,jbs,jbx,jbQ];done)|skip;done))
  | (have hi:¬ i < s.size:=nltN (by with_reducible assumption)
     first
      | exact ⟨_,_,_,rfl⟩
      | (unfold gk;refine jX (i:=i) (P:=fun j=>co s j) hi ?_;first|(show _=_;simp_all only [co,letB,digB,jbm,jbp,jbO,jbH,jbL,jbN,jbG,jbI,jbD,jbF,jbs,jbx,jbQ];done)|skip;done)
      | (unfold gk;exact jY (P:=fun j=>co s j) hI hi rfl)
      | (refine ⟨s.size - (i+1),by omega,i+1,?_,aZ hI (P:=fun j=>co s j) ?_,by omega,rfl⟩
         · exact congrArg (fun z:Int=>(([sArg s,.val false [.i .i64 z]],[]):Snap)) (wrapN hi hl)
         · first|(show _=_;simp_all only [co,letB,digB,jbm,jbp,jbO,jbH,jbL,jbN,jbG,jbI,jbD,jbF,jbs,jbx,jbQ];done)|skip;done))
  | (show aL _ _;exact rfl)
  | exact absurd (show (!false)=false by with_reducible assumption) (by decide)
  | exact absurd (show (!true)=true by with_reducible assumption) (by decide)
  | skip
theorem xk249:FOk Tryz.prog T 249 (spTB gm):=by
 refine fok (env:=envL [(50,spIn)]) (N:=42) tabT (aa ok50 ae) mixed Tryz.func249 rfl Tryz.call249 Tryz.ntmps249 ?_
 rintro args ⟨s,rfl⟩ hwf
 have hl:s.size≤maxLen:=arg0 hwf (jbb _)
 refine ⟨by simp,?_⟩
 clear hwf
 rw [Tryz.results249]
 repeat' first
  | (refine And.intro ?_ ?_)
  | (intro h;simp only [reduceCtorEq] at h;done)
  | (intro h;rw [h])
  | (intro h)
 all_goals first
  | (show ac _=true;kernel_rfl)|(show aj _ _=true;kernel_rfl)|exact True.intro|exact Or.inr rfl|exact Or.inl rfl
  | skip
 refine ar (Q:=_) [0,3] [] (fun n st=>∃ i:Nat,st=([sArg s,.val false [.i .i64 (i:Int)]],[])∧(∀ j,j < i→co s j=true)∧i≤s.size∧n=s.size - i) ?_ ?_
 · exact ⟨rfl,s.size,0,rfl,nolt _,jaU _,rfl⟩
 rintro n st ⟨i,rfl,hI,hle,rfl⟩
 repeat' first
  | (refine And.intro ?_ ?_)
  | (intro h;simp only [reduceCtorEq] at h;done)
  | (intro h;rw [h])
  | (intro h)
 all_goals first
  | (show ac _=true;kernel_rfl)|(show aj _ _=true;kernel_rfl)|exact True.intro|exact Or.inr rfl|exact Or.inl rfl
  | with_reducible exact ja7 _
  | (have hi:i < s.size:=ltN (by with_reducible assumption)
     first
      | with_reducible exact jaT (by with_reducible assumption)
      | (show (Int.toNat (i:Int)) < _;rw [jbf];exact hi)
      | (show (i:Int) < _;omega)
        | exact ⟨_,_,_,rfl⟩
        | (unfold gm;refine jX (i:=i) (P:=fun j=>co s j) hi ?_;first|(show _=_;simp_all only [co,letB,digB,jbm,jbp,jbO,jbH,jbL,jbN,jbG,jbI,jbD,jbF,jbs,jbx,jbQ];done)|(show _=_;simp_all only [co,letB,digB,lt48,gt57,jbm,jbp,jbO,jbH,jbL,jbN,jbG,jbI,jbD,jbF,jbs,jbx,jbQ];done))
        | (unfold gm;exact jY (P:=fun j=>co s j) hI hi rfl)
        | (refine ⟨s.size - (i+1),by omega,i+1,?_,aZ hI (P:=fun j=>co s j) ?_,by omega,rfl⟩
           · exact congrArg (fun z:Int=>(([sArg s,.val false [.i .i64 z]],[]):Snap)) (wrapN hi hl)
           · first|(show _=_;simp_all only [co,letB,digB,jbm,jbp,jbO,jbH,jbL,jbN,jbG,jbI,jbD,jbF,jbs,jbx,jbQ];done)|(show _=_;simp_all only [co,letB,digB,lt48,gt57,jbm,jbp,jbO,jbH,jbL,jbN,jbG,jbI,jbD,jbF,jbs,jbx,jbQ];done)))
  | (have hi:¬ i < s.size:=nltN (by with_reducible assumption)
     first
      | exact ⟨_,_,_,rfl⟩
      | (unfold gm;refine jX (i:=i) (P:=fun j=>co s j) hi ?_;first|(show _=_;simp_all only [co,letB,digB,jbm,jbp,jbO,jbH,jbL,jbN,jbG,jbI,jbD,jbF,jbs,jbx,jbQ];done)|(show _=_;simp_all only [co,letB,digB,lt48,gt57,jbm,jbp,jbO,jbH,jbL,jbN,jbG,jbI,jbD,jbF,jbs,jbx,jbQ];done))
      | (unfold gm;exact jY (P:=fun j=>co s j) hI hi rfl)
      | (refine ⟨s.size - (i+1),by omega,i+1,?_,aZ hI (P:=fun j=>co s j) ?_,by omega,rfl⟩
         · exact congrArg (fun z:Int=>(([sArg s,.val false [.i .i64 z]],[]):Snap)) (wrapN hi hl)
         · first|(show _=_;simp_all only [co,letB,digB,jbm,jbp,jbO,jbH,jbL,jbN,jbG,jbI,jbD,jbF,jbs,jbx,jbQ];done)|(show _=_;simp_all only [co,letB,digB,lt48,gt57,jbm,jbp,jbO,jbH,jbL,jbN,jbG,jbI,jbD,jbF,jbs,jbx,jbQ];done)))
  | (show aL _ _;exact rfl)
  | exact absurd (show (!false)=false by with_reducible assumption) (by decide)
  | exact absurd (show (!true)=true by with_reducible assumption) (by decide)
  | skip
theorem xk271:FOk Tryz.prog T 271 (qF resvB):=by
 refine fok (env:=envL []) (N:=2) tabT ae mixed Tryz.func271 rfl Tryz.call271 Tryz.ntmps271 ?_
 rintro args rfl hwf
 refine ⟨by simp,?_⟩
 clear hwf
 rw [Tryz.results271]
 repeat' first
  | (refine And.intro ?_ ?_)
  | (intro h;simp only [reduceCtorEq] at h;done)
  | (intro h;rw [h])
  | (intro h)
 all_goals first
  | (show ac _=true;kernel_rfl)|(show aj _ _=true;kernel_rfl)|exact True.intro|exact Or.inr rfl|exact Or.inl rfl
  | exact rfl
  | omega
  | decide
  | skip
theorem xk248:FOk Tryz.prog T 248 (yK hasT):=by
 refine fok (env:=envL []) (N:=18) tabT ae mixed Tryz.func248 rfl Tryz.call248 Tryz.ntmps248 ?_
 rintro args ⟨a,s,rfl⟩ hwf
 have hl:a.length≤maxLen:=(show WfD T (.l 9) (.l a) from arg0 hwf (jbb _)).len
 refine ⟨by simp,?_⟩
 clear hwf
 rw [Tryz.results248]
 repeat' first
  | (refine And.intro ?_ ?_)
  | (intro h;simp only [reduceCtorEq] at h;done)
  | (intro h;rw [h])
  | (intro h)
 all_goals first
  | (show ac _=true;kernel_rfl)|(show aj _ _=true;kernel_rfl)|exact True.intro|exact Or.inr rfl|exact Or.inl rfl
  | skip
 refine ar (Q:=_) [0,1,5] [] (fun n st=>∃ i:Nat,st=([argS 9 a,sArg s,.val false [.i .i64 (i:Int)]],[])∧(∀ j,j < i→(!isAt a s j)=true)∧i≤a.length∧n=a.length - i) ?_ ?_
 · exact ⟨rfl,a.length,0,rfl,nolt _,jaU _,rfl⟩
 rintro n st ⟨i,rfl,hI,hle,rfl⟩
 repeat' first
  | (refine And.intro ?_ ?_)
  | (intro h;simp only [reduceCtorEq] at h;done)
  | (intro h;rw [h])
  | (intro h)
 all_goals first
  | (show ac _=true;kernel_rfl)|(show aj _ _=true;kernel_rfl)|exact True.intro|exact Or.inr rfl|exact Or.inl rfl
  | with_reducible exact ja7 _
  | (have hi:i < a.length:=ltN (by with_reducible assumption)
     first
      | with_reducible exact jaT (by with_reducible assumption)
      | (show (Int.toNat (i:Int)) < _;rw [jbf];exact hi)
      | (show (i:Int) < _;omega)
        | exact zl (P:=fun j=>!isAt a s j) hi (notT (by with_reducible assumption))
        | exact zm (P:=fun j=>!isAt a s j) hI hi
        | (refine ⟨a.length - (i+1),by omega,i+1,?_,aZ hI (P:=fun j=>(!isAt a s j)) ?_,by omega,rfl⟩
           · exact congrArg (fun z:Int=>(([argS 9 a,sArg s,.val false [.i .i64 z]],[]):Snap)) (wrapN hi hl)
           · exact notF (by with_reducible assumption)))
  | (have hi:¬ i < a.length:=nltN (by with_reducible assumption)
     first
      | exact zl (P:=fun j=>!isAt a s j) hi (notT (by with_reducible assumption))
      | exact zm (P:=fun j=>!isAt a s j) hI hi
      | (refine ⟨a.length - (i+1),by omega,i+1,?_,aZ hI (P:=fun j=>(!isAt a s j)) ?_,by omega,rfl⟩
         · exact congrArg (fun z:Int=>(([argS 9 a,sArg s,.val false [.i .i64 z]],[]):Snap)) (wrapN hi hl)
         · exact notF (by with_reducible assumption)))
  | (show aL _ _;exact rfl)
  | exact absurd (show (!false)=false by with_reducible assumption) (by decide)
  | exact absurd (show (!true)=true by with_reducible assumption) (by decide)
  | skip
theorem xU:FOk Tryz.prog T 154 (wl idxT):=by
 refine fok (env:=envL []) (N:=19) tabT ae mixed Tryz.func154 rfl Tryz.call154 Tryz.ntmps154 ?_
 rintro args ⟨a,s,rfl⟩ hwf
 have hl:a.length≤maxLen:=(show WfD T (.l 9) (.l a) from arg0 hwf (jbb _)).len
 refine ⟨by simp,?_⟩
 clear hwf
 rw [Tryz.results154]
 repeat' first
  | (refine And.intro ?_ ?_)
  | (intro h;simp only [reduceCtorEq] at h;done)
  | (intro h;rw [h])
  | (intro h)
 all_goals first
  | (show ac _=true;kernel_rfl)|(show aj _ _=true;kernel_rfl)|exact True.intro|exact Or.inr rfl|exact Or.inl rfl
  | skip
 refine ar (Q:=_) [0,1,7,8,9] [] (fun n st=>∃ i:Nat,st=([argS 9 a,sArg s,argS 9 a,.val false [.i .i64 a.length],.val false [.i .i64 (i:Int)]],[])∧(∀ j,j < i→(!isAt a s j)=true)∧i≤a.length∧n=a.length - i) ?_ ?_
 · exact ⟨rfl,a.length,0,rfl,nolt _,jaU _,rfl⟩
 rintro n st ⟨i,rfl,hI,hle,rfl⟩
 repeat' first
  | (refine And.intro ?_ ?_)
  | (intro h;simp only [reduceCtorEq] at h;done)
  | (intro h;rw [h])
  | (intro h)
 all_goals first
  | (show ac _=true;kernel_rfl)|(show aj _ _=true;kernel_rfl)|exact True.intro|exact Or.inr rfl|exact Or.inl rfl
  | with_reducible exact ja7 _
  | (have hi:i < a.length:=ltN (by with_reducible assumption)
     first
      | with_reducible exact jaT (by with_reducible assumption)
      | (show (Int.toNat (i:Int)) < _;rw [jbf];exact hi)
      | (show (i:Int) < _;omega)
        | exact zk (P:=isAt a s) hi (by with_reducible assumption) hI
        | exact zj (P:=isAt a s) hI hi
        | (refine ⟨a.length - (i+1),by omega,i+1,?_,aZ hI (P:=fun j=>(!isAt a s j)) ?_,by omega,rfl⟩
           · exact congrArg (fun z:Int=>(([argS 9 a,sArg s,argS 9 a,.val false [.i .i64 a.length],.val false [.i .i64 z]],[]):Snap)) (wrapN hi hl)
           · exact notF (by with_reducible assumption)))
  | (have hi:¬ i < a.length:=nltN (by with_reducible assumption)
     first
      | exact zk (P:=isAt a s) hi (by with_reducible assumption) hI
      | exact zj (P:=isAt a s) hI hi
      | (refine ⟨a.length - (i+1),by omega,i+1,?_,aZ hI (P:=fun j=>(!isAt a s j)) ?_,by omega,rfl⟩
         · exact congrArg (fun z:Int=>(([argS 9 a,sArg s,argS 9 a,.val false [.i .i64 a.length],.val false [.i .i64 z]],[]):Snap)) (wrapN hi hl)
         · exact notF (by with_reducible assumption)))
  | (show aL _ _;exact rfl)
  | exact absurd (show (!false)=false by with_reducible assumption) (by decide)
  | exact absurd (show (!true)=true by with_reducible assumption) (by decide)
  | skip
theorem xk247:FOk Tryz.prog T 247 (spTB ep):=by
 refine fok (env:=envL [(271,(qF resvB)),(248,(yK hasT))]) (N:=6) tabT (aa xk271 (aa xk248 ae)) mixed Tryz.func247 rfl Tryz.call247 Tryz.ntmps247 ?_
 rintro args ⟨s,rfl⟩ hwf
 refine ⟨by simp,?_⟩
 clear hwf
 rw [Tryz.results247]
 repeat' first
  | (refine And.intro ?_ ?_)
  | (intro h;simp only [reduceCtorEq] at h;done)
  | (intro h;rw [h])
  | (intro h)
 all_goals first
  | (show ac _=true;kernel_rfl)|(show aj _ _=true;kernel_rfl)|exact True.intro|exact Or.inr rfl|exact Or.inl rfl
  | exact rfl
  | exact ⟨_,_,rfl⟩
  | exact resB (sg s)
  | skip
theorem xk272:FOk Tryz.prog T 272 uW:=by
 refine fok (env:=envL []) (N:=26) tabT ae mixed Tryz.func272 rfl Tryz.call272 Tryz.ntmps272 ?_
 rintro args ⟨s,rfl⟩ hwf
 refine ⟨by simp,?_⟩
 clear hwf
 rw [Tryz.results272]
 repeat' first
  | (refine And.intro ?_ ?_)
  | (intro h;simp only [reduceCtorEq] at h;done)
  | (intro h;rw [h])
  | (intro h)
 all_goals first
  | (show ac _=true;kernel_rfl)|(show aj _ _=true;kernel_rfl)|exact True.intro|exact Or.inr rfl|exact Or.inl rfl
  | exact rfl
  | exact ⟨_,rfl⟩
  | (refine resI ?_;simp only [argC, *,if_true,jbL,jbN,jbG,jbI];done)
  | (refine resI ?_;simp only [argC, *,if_true,jbL,jbN,jbG,jbI];rfl)
  | skip
theorem xk250:FOk Tryz.prog T 250 (spTB ep):=by
 refine fok (env:=envL [(272,uW)]) (N:=15) tabT (aa xk272 ae) mixed Tryz.func250 rfl Tryz.call250 Tryz.ntmps250 ?_
 rintro args ⟨s,rfl⟩ hwf
 refine ⟨by simp,?_⟩
 clear hwf
 rw [Tryz.results250]
 repeat' first
  | (refine And.intro ?_ ?_)
  | (intro h;simp only [reduceCtorEq] at h;done)
  | (intro h;rw [h])
  | (intro h)
 all_goals first
  | (show ac _=true;kernel_rfl)|(show aj _ _=true;kernel_rfl)|exact True.intro|exact Or.inr rfl|exact Or.inl rfl
  | exact rfl
  | exact ⟨_,rfl⟩
  | (refine resB ((?_:_=pE s).trans (oO s));simp only [pE, *,jbL,jbN,jbG,jbI];done)
  | (refine resB ((?_:_=pE s).trans (oO s));simp only [pE, *,jbL,jbN,jbG,jbI];rfl)
  | skip
theorem xk211:FOk Tryz.prog T 211 (spTB cD):=by
 refine fok (env:=envL [(246,(spTB gk)),(247,(spTB ep))]) (N:=15) tabT (aa xk246 (aa xk247 ae)) mixed Tryz.func211 rfl Tryz.call211 Tryz.ntmps211 ?_
 rintro args ⟨s,rfl⟩ hwf
 refine ⟨by simp,?_⟩
 clear hwf
 rw [Tryz.results211]
 repeat' first
  | (refine And.intro ?_ ?_)
  | (intro h;simp only [reduceCtorEq] at h;done)
  | (intro h;rw [h])
  | (intro h)
 all_goals first
  | (show ac _=true;kernel_rfl)|(show aj _ _=true;kernel_rfl)|exact True.intro|exact Or.inr rfl|exact Or.inl rfl
  | exact rfl
  | exact ⟨_,rfl⟩
  | (refine resB ?_;simp_all only [cD,jbm,jbp,jbO,jbH,jbL,jbN,jbG,jbI,jbD,jbF,jbs,jbx,jbQ];done)
  | skip
theorem xk215:FOk Tryz.prog T 215 (spTB cD):=by
 refine fok (env:=envL [(249,(spTB gm)),(250,(spTB ep))]) (N:=10) tabT (aa xk249 (aa xk250 ae)) mixed Tryz.func215 rfl Tryz.call215 Tryz.ntmps215 ?_
 rintro args ⟨s,rfl⟩ hwf
 refine ⟨by simp,?_⟩
 clear hwf
 rw [Tryz.results215]
 repeat' first
  | (refine And.intro ?_ ?_)
  | (intro h;simp only [reduceCtorEq] at h;done)
  | (intro h;rw [h])
  | (intro h)
 all_goals first
  | (show ac _=true;kernel_rfl)|(show aj _ _=true;kernel_rfl)|exact True.intro|exact Or.inr rfl|exact Or.inl rfl
  | exact rfl
  | exact ⟨_,rfl⟩
  | (refine resB ((?_:_=(gm s && !ep s)).trans (rJ s));simp_all only [jbm,jbp,jbO,jbH,jbL,jbN,jbG,jbI,jbD,jbF,jbs,jbx,jbQ];done)
  | skip
theorem xk216:FOk Tryz.prog T 216 (spSB 9 pY):=by
 refine fok (env:=envL [(154,(wl idxT))]) (N:=18) tabT (aa xU ae) mixed Tryz.func216 rfl Tryz.call216 Tryz.ntmps216 ?_
 rintro args ⟨a,rfl⟩ hwf
 have hl:a.length≤maxLen:=(show WfD T (.l 9) (.l a) from arg0 hwf (jbb _)).len
 refine ⟨by simp,?_⟩
 clear hwf
 rw [Tryz.results216]
 repeat' first
  | (refine And.intro ?_ ?_)
  | (intro h;simp only [reduceCtorEq] at h;done)
  | (intro h;rw [h])
  | (intro h)
 all_goals first
  | (show ac _=true;kernel_rfl)|(show aj _ _=true;kernel_rfl)|exact True.intro|exact Or.inr rfl|exact Or.inl rfl
  | skip
 refine ar (Q:=_) [0,5,6,7] [] (fun n st=>∃ i:Nat,st=([argS 9 a,argS 9 a,.val false [.i .i64 a.length],.val false [.i .i64 (i:Int)]],[])∧(∀ j,j < i→(!hasT (a.take j) (tAt a j))=true)∧i≤a.length∧n=a.length - i) ?_ ?_
 · exact ⟨rfl,a.length,0,rfl,nolt _,jaU _,rfl⟩
 rintro n st ⟨i,rfl,hI,hle,rfl⟩
 repeat' first
  | (refine And.intro ?_ ?_)
  | (intro h;simp only [reduceCtorEq] at h;done)
  | (intro h;rw [h])
  | (intro h)
 all_goals first
  | (show ac _=true;kernel_rfl)|(show aj _ _=true;kernel_rfl)|exact True.intro|exact Or.inr rfl|exact Or.inl rfl
  | with_reducible exact ja7 _
  | (have hi:i < a.length:=ltN (by with_reducible assumption)
     first
      | with_reducible exact jaT (by with_reducible assumption)
      | (show (Int.toNat (i:Int)) < _;rw [jbf];exact hi)
      | (show (i:Int) < _;omega)
        | exact ⟨_,_,rfl⟩
        | exact u5 (P:=fun j=>!hasT (a.take j) (tAt a j)) hi (sN hi (by with_reducible assumption))
        | (unfold pY;exact u6 hI hi)
        | (refine ⟨a.length - (i+1),by omega,i+1,?_,aZ hI (P:=fun j=>(!hasT (a.take j) (tAt a j))) ?_,by omega,rfl⟩
           · exact congrArg (fun z:Int=>(([argS 9 a,argS 9 a,.val false [.i .i64 a.length],.val false [.i .i64 z]],[]):Snap)) (wrapN hi hl)
           · exact ph hi (by with_reducible assumption)))
  | (have hi:¬ i < a.length:=nltN (by with_reducible assumption)
     first
      | exact ⟨_,_,rfl⟩
      | exact u5 (P:=fun j=>!hasT (a.take j) (tAt a j)) hi (sN hi (by with_reducible assumption))
      | (unfold pY;exact u6 hI hi)
      | (refine ⟨a.length - (i+1),by omega,i+1,?_,aZ hI (P:=fun j=>(!hasT (a.take j) (tAt a j))) ?_,by omega,rfl⟩
         · exact congrArg (fun z:Int=>(([argS 9 a,argS 9 a,.val false [.i .i64 a.length],.val false [.i .i64 z]],[]):Snap)) (wrapN hi hl)
         · exact ph hi (by with_reducible assumption)))
  | (show aL _ _;exact rfl)
  | exact absurd (show (!false)=false by with_reducible assumption) (by decide)
  | exact absurd (show (!true)=true by with_reducible assumption) (by decide)
  | skip
theorem xk188:FOk Tryz.prog T 188 (spSB 9 eF):=by
 refine fok (env:=envL [(215,(spTB cD)),(50,spIn),(216,(spSB 9 pY))]) (N:=22) tabT (aa xk215 (aa ok50 (aa xk216 ae))) mixed Tryz.func188 rfl Tryz.call188 Tryz.ntmps188 ?_
 rintro args ⟨a,rfl⟩ hwf
 have hl:a.length≤maxLen:=(show WfD T (.l 9) (.l a) from arg0 hwf (jbb _)).len
 refine ⟨by simp,?_⟩
 clear hwf
 rw [Tryz.results188]
 repeat' first
  | (refine And.intro ?_ ?_)
  | (intro h;simp only [reduceCtorEq] at h;done)
  | (intro h;rw [h])
  | (intro h)
 all_goals first
  | (show ac _=true;kernel_rfl)|(show aj _ _=true;kernel_rfl)|exact True.intro|exact Or.inr rfl|exact Or.inl rfl
  | skip
 refine ar (Q:=_) [0,5,6,7] [] (fun n st=>∃ i:Nat,st=([argS 9 a,argS 9 a,.val false [.i .i64 a.length],.val false [.i .i64 (i:Int)]],[])∧(∀ j,j < i→cD (tAt a j)=true)∧i≤a.length∧n=a.length - i) ?_ ?_
 · exact ⟨rfl,a.length,0,rfl,nolt _,jaU _,rfl⟩
 rintro n st ⟨i,rfl,hI,hle,rfl⟩
 repeat' first
  | (refine And.intro ?_ ?_)
  | (intro h;simp only [reduceCtorEq] at h;done)
  | (intro h;rw [h])
  | (intro h)
 all_goals first
  | (show ac _=true;kernel_rfl)|(show aj _ _=true;kernel_rfl)|exact True.intro|exact Or.inr rfl|exact Or.inl rfl
  | with_reducible exact ja7 _
  | (have hi:i < a.length:=ltN (by with_reducible assumption)
     first
      | with_reducible exact jaT (by with_reducible assumption)
      | (show (Int.toNat (i:Int)) < _;rw [jbf];exact hi)
      | (show (i:Int) < _;omega)
        | exact ⟨_,rfl⟩
        | exact ⟨_,_,_,rfl⟩
        | exact jX hi (cG (by with_reducible assumption))
        | (refine jY hI hi ?_;simp_all only [jbm,jbp,jbO,jbH,jbL,jbN,jbG,jbI,jbD,jbF,jbs,jbx,jbQ];done)
        | (refine ⟨a.length - (i+1),by omega,i+1,?_,aZ hI (P:=fun j=>cD (tAt a j)) ?_,by omega,rfl⟩
           · exact congrArg (fun z:Int=>(([argS 9 a,argS 9 a,.val false [.i .i64 a.length],.val false [.i .i64 z]],[]):Snap)) (wrapN hi hl)
           · exact bw (by with_reducible assumption)))
  | (have hi:¬ i < a.length:=nltN (by with_reducible assumption)
     first
      | exact ⟨_,rfl⟩
      | exact ⟨_,_,_,rfl⟩
      | exact jX hi (cG (by with_reducible assumption))
      | (refine jY hI hi ?_;simp_all only [jbm,jbp,jbO,jbH,jbL,jbN,jbG,jbI,jbD,jbF,jbs,jbx,jbQ];done)
      | (refine ⟨a.length - (i+1),by omega,i+1,?_,aZ hI (P:=fun j=>cD (tAt a j)) ?_,by omega,rfl⟩
         · exact congrArg (fun z:Int=>(([argS 9 a,argS 9 a,.val false [.i .i64 a.length],.val false [.i .i64 z]],[]):Snap)) (wrapN hi hl)
         · exact bw (by with_reducible assumption)))
  | (show aL _ _;exact rfl)
  | exact absurd (show (!false)=false by with_reducible assumption) (by decide)
  | exact absurd (show (!true)=true by with_reducible assumption) (by decide)
  | skip
end Go.Proofs.YtkpnfbdoaljkpaaGreatDoor.Ab
