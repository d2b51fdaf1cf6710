/- Names, columns, rows, exactly: printed by a program of this -/
import Derived.Test.YtcllpknipmcolaaGreatDoorCYs
import Derived.Test.YtcllpknipmcolaaGreatDoorCVb
namespace Go.Proofs.YtcllpknipmcolaaGreatDoor.Ab
open Go.RowKit
set_option linter.all false
set_option maxRecDepth 100000
set_option maxHeartbeats 2000000
theorem zE:FOk Tryz.prog T 123 (spTB okTxt):=by
 refine fok (env:=envL []) (N:=29) tabT ae mixed Tryz.func123 rfl Tryz.call123 Tryz.ntmps123 ?_
 rintro args ⟨s,rfl⟩ hwf
 have hl:s.size≤maxLen:=arg0 hwf (jcC _)
 refine ⟨by simp,?_⟩
 clear hwf
 rw [Tryz.results123]
 repeat' first
  | (refine And.intro ?_ ?_)
  | (intro h;simp only [reduceCtorEq] at h;done)
  | (intro h;rw [h])
  | (intro h)
 all_goals first
  | skip
 refine am (Q:=_) [0,3] [] (fun n st=>∃ i:Nat,st=([sArg s,.val false [.i .i64 (i:Int)]],[])∧(∀ j,j < i→bE (bAt s j)=true)∧i≤s.size∧n=s.size - i) ?_ ?_
 · exact ⟨rfl,s.size,0,rfl,nolt _,jcl _,rfl⟩
 rintro n st ⟨i,rfl,hI,hle,rfl⟩
 repeat' first
  | (refine And.intro ?_ ?_)
  | (intro h;simp only [reduceCtorEq] at h;done)
  | (intro h;rw [h])
  | (intro h)
 all_goals first
  | exact True.intro
  | exact Or.inr rfl
  | with_reducible exact jcy _
  | (have hi:i < s.size:=ltN (by with_reducible assumption)
     first
      | with_reducible exact jck (by with_reducible assumption)
      | (show (i:Int) < _;omega)
        | exact ⟨_,_,_,rfl⟩
        | (unfold okTxt;refine qz (i:=i) (P:=fun j=>bE (bAt s j)) hi ?_;first|(show _=_;simp_all only [bE,jcN,jcQ,jdf,jc8,jdc,jde,jc7,jc9,jc4,jc6,jcT,jcY,jdh];done)|skip;done)
        | (unfold okTxt;exact iV (P:=fun j=>bE (bAt s j)) hI hi rfl)
        | (refine ⟨s.size - (i+1),by omega,i+1,?_,aJ hI (P:=fun j=>bE (bAt s j)) ?_,by omega,rfl⟩
           · exact congrArg (fun z:Int=>(([sArg s,.val false [.i .i64 z]],[]):Snap)) (wrapN hi hl)
           · first|(show _=_;simp_all only [bE,jcN,jcQ,jdf,jc8,jdc,jde,jc7,jc9,jc4,jc6,jcT,jcY,jdh];done)|skip;done))
  | (have hi:¬ i < s.size:=nltN (by with_reducible assumption)
     first
      | (unfold okTxt;exact iV (P:=fun j=>bE (bAt s j)) hI hi rfl)
      | (refine ⟨s.size - (i+1),by omega,i+1,?_,aJ hI (P:=fun j=>bE (bAt s j)) ?_,by omega,rfl⟩
         · exact congrArg (fun z:Int=>(([sArg s,.val false [.i .i64 z]],[]):Snap)) (wrapN hi hl)
         · first|(show _=_;simp_all only [bE,jcN,jcQ,jdf,jc8,jdc,jde,jc7,jc9,jc4,jc6,jcT,jcY,jdh];done)|skip;done))
  | (show aV _ _;exact rfl)
theorem xk56:FOk Tryz.prog T 56 (spTB okTxt):=by
 refine fok (env:=envL []) (N:=29) tabT ae mixed Tryz.func56 rfl Tryz.call56 Tryz.ntmps56 ?_
 rintro args ⟨s,rfl⟩ hwf
 have hl:s.size≤maxLen:=arg0 hwf (jcC _)
 refine ⟨by simp,?_⟩
 clear hwf
 rw [Tryz.results56]
 repeat' first
  | (refine And.intro ?_ ?_)
  | (intro h;simp only [reduceCtorEq] at h;done)
  | (intro h;rw [h])
  | (intro h)
 all_goals first
  | skip
 refine am (Q:=_) [0,3] [] (fun n st=>∃ i:Nat,st=([sArg s,.val false [.i .i64 (i:Int)]],[])∧(∀ j,j < i→bE (bAt s j)=true)∧i≤s.size∧n=s.size - i) ?_ ?_
 · exact ⟨rfl,s.size,0,rfl,nolt _,jcl _,rfl⟩
 rintro n st ⟨i,rfl,hI,hle,rfl⟩
 repeat' first
  | (refine And.intro ?_ ?_)
  | (intro h;simp only [reduceCtorEq] at h;done)
  | (intro h;rw [h])
  | (intro h)
 all_goals first
  | exact True.intro
  | exact Or.inr rfl
  | with_reducible exact jcy _
  | (have hi:i < s.size:=ltN (by with_reducible assumption)
     first
      | with_reducible exact jck (by with_reducible assumption)
      | (show (i:Int) < _;omega)
        | exact ⟨_,_,_,rfl⟩
        | (unfold okTxt;refine qz (i:=i) (P:=fun j=>bE (bAt s j)) hi ?_;first|(show _=_;simp_all only [bE,jcN,jcQ,jdf,jc8,jdc,jde,jc7,jc9,jc4,jc6,jcT,jcY,jdh];done)|skip;done)
        | (unfold okTxt;exact iV (P:=fun j=>bE (bAt s j)) hI hi rfl)
        | (refine ⟨s.size - (i+1),by omega,i+1,?_,aJ hI (P:=fun j=>bE (bAt s j)) ?_,by omega,rfl⟩
           · exact congrArg (fun z:Int=>(([sArg s,.val false [.i .i64 z]],[]):Snap)) (wrapN hi hl)
           · first|(show _=_;simp_all only [bE,jcN,jcQ,jdf,jc8,jdc,jde,jc7,jc9,jc4,jc6,jcT,jcY,jdh];done)|skip;done))
  | (have hi:¬ i < s.size:=nltN (by with_reducible assumption)
     first
      | (unfold okTxt;exact iV (P:=fun j=>bE (bAt s j)) hI hi rfl)
      | (refine ⟨s.size - (i+1),by omega,i+1,?_,aJ hI (P:=fun j=>bE (bAt s j)) ?_,by omega,rfl⟩
         · exact congrArg (fun z:Int=>(([sArg s,.val false [.i .i64 z]],[]):Snap)) (wrapN hi hl)
         · first|(show _=_;simp_all only [bE,jcN,jcQ,jdf,jc8,jdc,jde,jc7,jc9,jc4,jc6,jcT,jcY,jdh];done)|skip;done))
  | (show aV _ _;exact rfl)
theorem xk220:FOk Tryz.prog T 220 (spTB iI):=by
 refine fok (env:=envL []) (N:=45) tabT ae mixed Tryz.func220 rfl Tryz.call220 Tryz.ntmps220 ?_
 rintro args ⟨s,rfl⟩ hwf
 have hl:s.size≤maxLen:=arg0 hwf (jcC _)
 refine ⟨by simp,?_⟩
 clear hwf
 rw [Tryz.results220]
 repeat' first
  | (refine And.intro ?_ ?_)
  | (intro h;simp only [reduceCtorEq] at h;done)
  | (intro h;rw [h])
  | (intro h)
 all_goals first
  | skip
 refine am (Q:=_) [0,3] [] (fun n st=>∃ i:Nat,st=([sArg s,.val false [.i .i64 (i:Int)]],[])∧(∀ j,j < i→cH s j=true)∧i≤s.size∧n=s.size - i) ?_ ?_
 · exact ⟨rfl,s.size,0,rfl,nolt _,jcl _,rfl⟩
 rintro n st ⟨i,rfl,hI,hle,rfl⟩
 repeat' first
  | (refine And.intro ?_ ?_)
  | (intro h;simp only [reduceCtorEq] at h;done)
  | (intro h;rw [h])
  | (intro h)
 all_goals first
  | exact True.intro
  | exact Or.inr rfl
  | with_reducible exact jcy _
  | (have hi:i < s.size:=ltN (by with_reducible assumption)
     first
      | with_reducible exact jck (by with_reducible assumption)
      | (show (i:Int) < _;omega)
        | exact ⟨_,_,_,rfl⟩
        | (unfold iI;refine qz (i:=i) (P:=fun j=>cH s j) hi ?_;first|(show _=_;simp_all only [cH,letB,digB,jcN,jcQ,jdf,jc8,jdc,jde,jc7,jc9,jc4,jc6,jcT,jcY,jdh];done)|skip;done)
        | (unfold iI;exact iV (P:=fun j=>cH s j) hI hi rfl)
        | (refine ⟨s.size - (i+1),by omega,i+1,?_,aJ hI (P:=fun j=>cH s j) ?_,by omega,rfl⟩
           · exact congrArg (fun z:Int=>(([sArg s,.val false [.i .i64 z]],[]):Snap)) (wrapN hi hl)
           · first|(show _=_;simp_all only [cH,letB,digB,jcN,jcQ,jdf,jc8,jdc,jde,jc7,jc9,jc4,jc6,jcT,jcY,jdh];done)|skip;done))
  | (have hi:¬ i < s.size:=nltN (by with_reducible assumption)
     first
      | (unfold iI;exact iV (P:=fun j=>cH s j) hI hi rfl)
      | (refine ⟨s.size - (i+1),by omega,i+1,?_,aJ hI (P:=fun j=>cH s j) ?_,by omega,rfl⟩
         · exact congrArg (fun z:Int=>(([sArg s,.val false [.i .i64 z]],[]):Snap)) (wrapN hi hl)
         · first|(show _=_;simp_all only [cH,letB,digB,jcN,jcQ,jdf,jc8,jdc,jde,jc7,jc9,jc4,jc6,jcT,jcY,jdh];done)|skip;done))
  | (show aV _ _;exact rfl)
  | exact absurd (show (!false)=false by with_reducible assumption) (by decide)
theorem xk170:FOk Tryz.prog T 170 (spTB iJ):=by
 refine fok (env:=envL [(53,spIn)]) (N:=42) tabT (aa ok53 ae) mixed Tryz.func170 rfl Tryz.call170 Tryz.ntmps170 ?_
 rintro args ⟨s,rfl⟩ hwf
 have hl:s.size≤maxLen:=arg0 hwf (jcC _)
 refine ⟨by simp,?_⟩
 clear hwf
 rw [Tryz.results170]
 repeat' first
  | (refine And.intro ?_ ?_)
  | (intro h;simp only [reduceCtorEq] at h;done)
  | (intro h;rw [h])
  | (intro h)
 all_goals first
  | skip
 refine am (Q:=_) [0,3] [] (fun n st=>∃ i:Nat,st=([sArg s,.val false [.i .i64 (i:Int)]],[])∧(∀ j,j < i→cH s j=true)∧i≤s.size∧n=s.size - i) ?_ ?_
 · exact ⟨rfl,s.size,0,rfl,nolt _,jcl _,rfl⟩
 rintro n st ⟨i,rfl,hI,hle,rfl⟩
 repeat' first
  | (refine And.intro ?_ ?_)
  | (intro h;simp only [reduceCtorEq] at h;done)
  | (intro h;rw [h])
  | (intro h)
 all_goals first
  | exact True.intro
  | exact Or.inr rfl
  | with_reducible exact jcy _
  | (have hi:i < s.size:=ltN (by with_reducible assumption)
     first
      | with_reducible exact jck (by with_reducible assumption)
      | (show (i:Int) < _;omega)
        | exact ⟨_,_,_,rfl⟩
        | (unfold iJ;refine qz (i:=i) (P:=fun j=>cH s j) hi ?_;first|(show _=_;simp_all only [cH,letB,digB,jcN,jcQ,jdf,jc8,jdc,jde,jc7,jc9,jc4,jc6,jcT,jcY,jdh];done)|(show _=_;simp_all only [cH,letB,digB,lt48,gt57,jcN,jcQ,jdf,jc8,jdc,jde,jc7,jc9,jc4,jc6,jcT,jcY,jdh];done))
        | (unfold iJ;exact iV (P:=fun j=>cH s j) hI hi rfl)
        | (refine ⟨s.size - (i+1),by omega,i+1,?_,aJ hI (P:=fun j=>cH s j) ?_,by omega,rfl⟩
           · exact congrArg (fun z:Int=>(([sArg s,.val false [.i .i64 z]],[]):Snap)) (wrapN hi hl)
           · first|(show _=_;simp_all only [cH,letB,digB,jcN,jcQ,jdf,jc8,jdc,jde,jc7,jc9,jc4,jc6,jcT,jcY,jdh];done)|(show _=_;simp_all only [cH,letB,digB,lt48,gt57,jcN,jcQ,jdf,jc8,jdc,jde,jc7,jc9,jc4,jc6,jcT,jcY,jdh];done)))
  | (have hi:¬ i < s.size:=nltN (by with_reducible assumption)
     first
      | exact ⟨_,_,_,rfl⟩
      | (unfold iJ;exact iV (P:=fun j=>cH s j) hI hi rfl)
      | (refine ⟨s.size - (i+1),by omega,i+1,?_,aJ hI (P:=fun j=>cH s j) ?_,by omega,rfl⟩
         · exact congrArg (fun z:Int=>(([sArg s,.val false [.i .i64 z]],[]):Snap)) (wrapN hi hl)
         · first|(show _=_;simp_all only [cH,letB,digB,jcN,jcQ,jdf,jc8,jdc,jde,jc7,jc9,jc4,jc6,jcT,jcY,jdh];done)|(show _=_;simp_all only [cH,letB,digB,lt48,gt57,jcN,jcQ,jdf,jc8,jdc,jde,jc7,jc9,jc4,jc6,jcT,jcY,jdh];done)))
  | (show aV _ _;exact rfl)
  | exact absurd (show (!false)=false by with_reducible assumption) (by decide)
theorem xk227:FOk Tryz.prog T 227 (rH resvB):=by
 refine fok (env:=envL []) (N:=2) tabT ae mixed Tryz.func227 rfl Tryz.call227 Tryz.ntmps227 ?_
 rintro args rfl hwf
 refine ⟨by simp,?_⟩
 clear hwf
 rw [Tryz.results227]
 repeat' first
  | (refine And.intro ?_ ?_)
  | (intro h;simp only [reduceCtorEq] at h;done)
  | (intro h;rw [h])
  | (intro h)
 all_goals first
  | exact True.intro
  | exact Or.inr rfl
  | exact rfl
theorem zz:FOk Tryz.prog T 222 (yg hasT):=by
 refine fok (env:=envL []) (N:=18) tabT ae mixed Tryz.func222 rfl Tryz.call222 Tryz.ntmps222 ?_
 rintro args ⟨a,s,rfl⟩ hwf
 have hl:a.length≤maxLen:=(show WfD T (.l 9) (.l a) from arg0 hwf (jcC _)).len
 refine ⟨by simp,?_⟩
 clear hwf
 rw [Tryz.results222]
 repeat' first
  | (refine And.intro ?_ ?_)
  | (intro h;simp only [reduceCtorEq] at h;done)
  | (intro h;rw [h])
  | (intro h)
 all_goals first
  | skip
 refine am (Q:=_) [0,1,5] [] (fun n st=>∃ i:Nat,st=([argS 9 a,sArg s,.val false [.i .i64 (i:Int)]],[])∧(∀ j,j < i→(!isAt a s j)=true)∧i≤a.length∧n=a.length - i) ?_ ?_
 · exact ⟨rfl,a.length,0,rfl,nolt _,jcl _,rfl⟩
 rintro n st ⟨i,rfl,hI,hle,rfl⟩
 repeat' first
  | (refine And.intro ?_ ?_)
  | (intro h;simp only [reduceCtorEq] at h;done)
  | (intro h;rw [h])
  | (intro h)
 all_goals first
  | exact True.intro
  | exact Or.inr rfl
  | with_reducible exact jcy _
  | (have hi:i < a.length:=ltN (by with_reducible assumption)
     first
      | with_reducible exact jck (by with_reducible assumption)
      | (show (i:Int) < _;omega)
        | exact resBn (P:=fun j=>!isAt a s j) hi (notT (by with_reducible assumption))
        | exact jaP (P:=fun j=>!isAt a s j) hI hi
        | (refine ⟨a.length - (i+1),by omega,i+1,?_,aJ hI (P:=fun j=>(!isAt a s j)) ?_,by omega,rfl⟩
           · exact congrArg (fun z:Int=>(([argS 9 a,sArg s,.val false [.i .i64 z]],[]):Snap)) (wrapN hi hl)
           · exact notF (by with_reducible assumption)))
  | (have hi:¬ i < a.length:=nltN (by with_reducible assumption)
     first
      | exact jaP (P:=fun j=>!isAt a s j) hI hi
      | (refine ⟨a.length - (i+1),by omega,i+1,?_,aJ hI (P:=fun j=>(!isAt a s j)) ?_,by omega,rfl⟩
         · exact congrArg (fun z:Int=>(([argS 9 a,sArg s,.val false [.i .i64 z]],[]):Snap)) (wrapN hi hl)
         · exact notF (by with_reducible assumption)))
  | (show aV _ _;exact rfl)
theorem xk160:FOk Tryz.prog T 160 (rL idxT):=by
 refine fok (env:=envL []) (N:=19) tabT ae mixed Tryz.func160 rfl Tryz.call160 Tryz.ntmps160 ?_
 rintro args ⟨a,s,rfl⟩ hwf
 have hl:a.length≤maxLen:=(show WfD T (.l 9) (.l a) from arg0 hwf (jcC _)).len
 refine ⟨by simp,?_⟩
 clear hwf
 rw [Tryz.results160]
 repeat' first
  | (refine And.intro ?_ ?_)
  | (intro h;simp only [reduceCtorEq] at h;done)
  | (intro h;rw [h])
  | (intro h)
 all_goals first
  | skip
 refine am (Q:=_) [0,1,5] [] (fun n st=>∃ i:Nat,st=([argS 9 a,sArg s,.val false [.i .i64 (i:Int)]],[])∧(∀ j,j < i→(!isAt a s j)=true)∧i≤a.length∧n=a.length - i) ?_ ?_
 · exact ⟨rfl,a.length,0,rfl,nolt _,jcl _,rfl⟩
 rintro n st ⟨i,rfl,hI,hle,rfl⟩
 repeat' first
  | (refine And.intro ?_ ?_)
  | (intro h;simp only [reduceCtorEq] at h;done)
  | (intro h;rw [h])
  | (intro h)
 all_goals first
  | exact True.intro
  | exact Or.inr rfl
  | with_reducible exact jcy _
  | (have hi:i < a.length:=ltN (by with_reducible assumption)
     first
      | with_reducible exact jck (by with_reducible assumption)
      | (show (i:Int) < _;omega)
        | exact jaN (P:=isAt a s) hi (by with_reducible assumption) hI
        | exact vd (P:=isAt a s) hI hi
        | (refine ⟨a.length - (i+1),by omega,i+1,?_,aJ hI (P:=fun j=>(!isAt a s j)) ?_,by omega,rfl⟩
           · exact congrArg (fun z:Int=>(([argS 9 a,sArg s,.val false [.i .i64 z]],[]):Snap)) (wrapN hi hl)
           · exact notF (by with_reducible assumption)))
  | (have hi:¬ i < a.length:=nltN (by with_reducible assumption)
     first
      | exact vd (P:=isAt a s) hI hi
      | (refine ⟨a.length - (i+1),by omega,i+1,?_,aJ hI (P:=fun j=>(!isAt a s j)) ?_,by omega,rfl⟩
         · exact congrArg (fun z:Int=>(([argS 9 a,sArg s,.val false [.i .i64 z]],[]):Snap)) (wrapN hi hl)
         · exact notF (by with_reducible assumption)))
  | (show aV _ _;exact rfl)
theorem zD:FOk Tryz.prog T 154 (rL idxT):=by
 refine fok (env:=envL []) (N:=19) tabT ae mixed Tryz.func154 rfl Tryz.call154 Tryz.ntmps154 ?_
 rintro args ⟨a,s,rfl⟩ hwf
 have hl:a.length≤maxLen:=(show WfD T (.l 9) (.l a) from arg0 hwf (jcC _)).len
 refine ⟨by simp,?_⟩
 clear hwf
 rw [Tryz.results154]
 repeat' first
  | (refine And.intro ?_ ?_)
  | (intro h;simp only [reduceCtorEq] at h;done)
  | (intro h;rw [h])
  | (intro h)
 all_goals first
  | skip
 refine am (Q:=_) [0,1,7,8,9] [] (fun n st=>∃ i:Nat,st=([argS 9 a,sArg s,argS 9 a,.val false [.i .i64 a.length],.val false [.i .i64 (i:Int)]],[])∧(∀ j,j < i→(!isAt a s j)=true)∧i≤a.length∧n=a.length - i) ?_ ?_
 · exact ⟨rfl,a.length,0,rfl,nolt _,jcl _,rfl⟩
 rintro n st ⟨i,rfl,hI,hle,rfl⟩
 repeat' first
  | (refine And.intro ?_ ?_)
  | (intro h;simp only [reduceCtorEq] at h;done)
  | (intro h;rw [h])
  | (intro h)
 all_goals first
  | exact True.intro
  | exact Or.inr rfl
  | with_reducible exact jcy _
  | (have hi:i < a.length:=ltN (by with_reducible assumption)
     first
      | with_reducible exact jck (by with_reducible assumption)
      | (show (i:Int) < _;omega)
        | exact jaN (P:=isAt a s) hi (by with_reducible assumption) hI
        | exact vd (P:=isAt a s) hI hi
        | (refine ⟨a.length - (i+1),by omega,i+1,?_,aJ hI (P:=fun j=>(!isAt a s j)) ?_,by omega,rfl⟩
           · exact congrArg (fun z:Int=>(([argS 9 a,sArg s,argS 9 a,.val false [.i .i64 a.length],.val false [.i .i64 z]],[]):Snap)) (wrapN hi hl)
           · exact notF (by with_reducible assumption)))
  | (have hi:¬ i < a.length:=nltN (by with_reducible assumption)
     first
      | exact vd (P:=isAt a s) hI hi
      | (refine ⟨a.length - (i+1),by omega,i+1,?_,aJ hI (P:=fun j=>(!isAt a s j)) ?_,by omega,rfl⟩
         · exact congrArg (fun z:Int=>(([argS 9 a,sArg s,argS 9 a,.val false [.i .i64 a.length],.val false [.i .i64 z]],[]):Snap)) (wrapN hi hl)
         · exact notF (by with_reducible assumption)))
  | (show aV _ _;exact rfl)
theorem xk221:FOk Tryz.prog T 221 (spTB eY):=by
 refine fok (env:=envL [(227,(rH resvB)),(222,(yg hasT))]) (N:=6) tabT (aa xk227 (aa zz ae)) mixed Tryz.func221 rfl Tryz.call221 Tryz.ntmps221 ?_
 rintro args ⟨s,rfl⟩ hwf
 refine ⟨by simp,?_⟩
 clear hwf
 rw [Tryz.results221]
 repeat' first
  | (refine And.intro ?_ ?_)
  | (intro h;simp only [reduceCtorEq] at h;done)
  | (intro h;rw [h])
  | (intro h)
 all_goals first
  | exact True.intro
  | exact Or.inr rfl
  | exact rfl
  | exact ⟨_,_,rfl⟩
  | exact resB (tM s)
theorem xk204:FOk Tryz.prog T 204 wK:=by
 refine fok (env:=envL []) (N:=26) tabT ae mixed Tryz.func204 rfl Tryz.call204 Tryz.ntmps204 ?_
 rintro args ⟨s,rfl⟩ hwf
 refine ⟨by simp,?_⟩
 clear hwf
 rw [Tryz.results204]
 repeat' first
  | (refine And.intro ?_ ?_)
  | (intro h;simp only [reduceCtorEq] at h;done)
  | (intro h;rw [h])
  | (intro h)
 all_goals first
  | exact True.intro
  | exact Or.inr rfl
  | (refine resI ?_;simp only [argC, *,if_true,jdc,jde,jc7,jc9];done)
  | (refine resI ?_;simp only [argC, *,if_true,jdc,jde,jc7,jc9];rfl)
theorem xk171:FOk Tryz.prog T 171 (spTB eY):=by
 refine fok (env:=envL [(204,wK)]) (N:=15) tabT (aa xk204 ae) mixed Tryz.func171 rfl Tryz.call171 Tryz.ntmps171 ?_
 rintro args ⟨s,rfl⟩ hwf
 refine ⟨by simp,?_⟩
 clear hwf
 rw [Tryz.results171]
 repeat' first
  | (refine And.intro ?_ ?_)
  | (intro h;simp only [reduceCtorEq] at h;done)
  | (intro h;rw [h])
  | (intro h)
 all_goals first
  | exact True.intro
  | exact Or.inr rfl
  | exact ⟨_,rfl⟩
  | (refine resB ((?_:_=u7 s).trans (u6 s));simp only [u7, *,jdc,jde,jc7,jc9];done)
theorem zA:FOk Tryz.prog T 201 (spTB bX):=by
 refine fok (env:=envL [(220,(spTB iI)),(221,(spTB eY))]) (N:=15) tabT (aa xk220 (aa xk221 ae)) mixed Tryz.func201 rfl Tryz.call201 Tryz.ntmps201 ?_
 rintro args ⟨s,rfl⟩ hwf
 refine ⟨by simp,?_⟩
 clear hwf
 rw [Tryz.results201]
 repeat' first
  | (refine And.intro ?_ ?_)
  | (intro h;simp only [reduceCtorEq] at h;done)
  | (intro h;rw [h])
  | (intro h)
 all_goals first
  | exact True.intro
  | exact Or.inr rfl
  | exact ⟨_,rfl⟩
  | (refine resB ?_;simp_all only [bX,jcN,jcQ,jdf,jc8,jdc,jde,jc7,jc9,jc4,jc6,jcT,jcY,jdh];done)
theorem xk132:FOk Tryz.prog T 132 (spTB bX):=by
 refine fok (env:=envL [(170,(spTB iJ)),(171,(spTB eY))]) (N:=10) tabT (aa xk170 (aa xk171 ae)) mixed Tryz.func132 rfl Tryz.call132 Tryz.ntmps132 ?_
 rintro args ⟨s,rfl⟩ hwf
 refine ⟨by simp,?_⟩
 clear hwf
 rw [Tryz.results132]
 repeat' first
  | (refine And.intro ?_ ?_)
  | (intro h;simp only [reduceCtorEq] at h;done)
  | (intro h;rw [h])
  | (intro h)
 all_goals first
  | exact True.intro
  | exact Or.inr rfl
  | exact ⟨_,rfl⟩
  | (refine resB ((?_:_=(iJ s && !eY s)).trans (ta s));simp_all only [jcN,jcQ,jdf,jc8,jdc,jde,jc7,jc9,jc4,jc6,jcT,jcY,jdh];done)
theorem xk202:FOk Tryz.prog T 202 (spSB 9 kx):=by
 refine fok (env:=envL [(222,(yg hasT))]) (N:=18) tabT (aa zz ae) mixed Tryz.func202 rfl Tryz.call202 Tryz.ntmps202 ?_
 rintro args ⟨a,rfl⟩ hwf
 have hl:a.length≤maxLen:=(show WfD T (.l 9) (.l a) from arg0 hwf (jcC _)).len
 refine ⟨by simp,?_⟩
 clear hwf
 rw [Tryz.results202]
 repeat' first
  | (refine And.intro ?_ ?_)
  | (intro h;simp only [reduceCtorEq] at h;done)
  | (intro h;rw [h])
  | (intro h)
 all_goals first
  | skip
 refine am (Q:=_) [0,3] [] (fun n st=>∃ i:Nat,st=([argS 9 a,.val false [.i .i64 (i:Int)]],[])∧(∀ j,j < i→(!hasT (a.take j) (tAt a j))=true)∧i≤a.length∧n=a.length - i) ?_ ?_
 · exact ⟨rfl,a.length,0,rfl,nolt _,jcl _,rfl⟩
 rintro n st ⟨i,rfl,hI,hle,rfl⟩
 repeat' first
  | (refine And.intro ?_ ?_)
  | (intro h;simp only [reduceCtorEq] at h;done)
  | (intro h;rw [h])
  | (intro h)
 all_goals first
  | (show av _=true;kernel_rfl)
  | (show aX _ _=true;kernel_rfl)
  | exact True.intro
  | exact Or.inr rfl
  | with_reducible exact jcy _
  | (have hi:i < a.length:=ltN (by with_reducible assumption)
     first
      | with_reducible exact jck (by with_reducible assumption)
      | (show (i:Int) < _;omega)
        | exact ⟨_,_,rfl⟩
        | (show (i:Int)≤_;omega)
        | (show i≤_;omega)
        | exact jc5 _
        | exact mT (P:=fun j=>!hasT (a.take j) (tAt a j)) hi (notT (b:=hasT (a.take i) (tAt a i)) (show hasT (List.drop (Int.toNat 0) (List.take (Int.toNat (i:Int)) a)) (tAt a i)=true by with_reducible assumption))
        | (unfold kx;exact kR hI hi)
        | (refine ⟨a.length - (i+1),by omega,i+1,?_,aJ hI (P:=fun j=>(!hasT (a.take j) (tAt a j))) ?_,by omega,rfl⟩
           · exact congrArg (fun z:Int=>(([argS 9 a,.val false [.i .i64 z]],[]):Snap)) (wrapN hi hl)
           · exact notF (b:=hasT (a.take i) (tAt a i)) (show hasT (List.drop (Int.toNat 0) (List.take (Int.toNat (i:Int)) a)) (tAt a i)=false by with_reducible assumption)))
  | (have hi:¬ i < a.length:=nltN (by with_reducible assumption)
     first
      | (unfold kx;exact kR hI hi)
      | (refine ⟨a.length - (i+1),by omega,i+1,?_,aJ hI (P:=fun j=>(!hasT (a.take j) (tAt a j))) ?_,by omega,rfl⟩
         · exact congrArg (fun z:Int=>(([argS 9 a,.val false [.i .i64 z]],[]):Snap)) (wrapN hi hl)
         · exact notF (b:=hasT (a.take i) (tAt a i)) (show hasT (List.drop (Int.toNat 0) (List.take (Int.toNat (i:Int)) a)) (tAt a i)=false by with_reducible assumption)))
  | (show aV _ _;exact rfl)
theorem xk133:FOk Tryz.prog T 133 (spSB 9 kx):=by
 refine fok (env:=envL [(154,(rL idxT))]) (N:=18) tabT (aa zD ae) mixed Tryz.func133 rfl Tryz.call133 Tryz.ntmps133 ?_
 rintro args ⟨a,rfl⟩ hwf
 have hl:a.length≤maxLen:=(show WfD T (.l 9) (.l a) from arg0 hwf (jcC _)).len
 refine ⟨by simp,?_⟩
 clear hwf
 rw [Tryz.results133]
 repeat' first
  | (refine And.intro ?_ ?_)
  | (intro h;simp only [reduceCtorEq] at h;done)
  | (intro h;rw [h])
  | (intro h)
 all_goals first
  | skip
 refine am (Q:=_) [0,5,6,7] [] (fun n st=>∃ i:Nat,st=([argS 9 a,argS 9 a,.val false [.i .i64 a.length],.val false [.i .i64 (i:Int)]],[])∧(∀ j,j < i→(!hasT (a.take j) (tAt a j))=true)∧i≤a.length∧n=a.length - i) ?_ ?_
 · exact ⟨rfl,a.length,0,rfl,nolt _,jcl _,rfl⟩
 rintro n st ⟨i,rfl,hI,hle,rfl⟩
 repeat' first
  | (refine And.intro ?_ ?_)
  | (intro h;simp only [reduceCtorEq] at h;done)
  | (intro h;rw [h])
  | (intro h)
 all_goals first
  | exact True.intro
  | exact Or.inr rfl
  | with_reducible exact jcy _
  | (have hi:i < a.length:=ltN (by with_reducible assumption)
     first
      | with_reducible exact jck (by with_reducible assumption)
      | (show (i:Int) < _;omega)
        | exact ⟨_,_,rfl⟩
        | exact mT (P:=fun j=>!hasT (a.take j) (tAt a j)) hi (zl hi (by with_reducible assumption))
        | (unfold kx;exact kR hI hi)
        | (refine ⟨a.length - (i+1),by omega,i+1,?_,aJ hI (P:=fun j=>(!hasT (a.take j) (tAt a j))) ?_,by omega,rfl⟩
           · exact congrArg (fun z:Int=>(([argS 9 a,argS 9 a,.val false [.i .i64 a.length],.val false [.i .i64 z]],[]):Snap)) (wrapN hi hl)
           · exact qe hi (by with_reducible assumption)))
  | (have hi:¬ i < a.length:=nltN (by with_reducible assumption)
     first
      | (unfold kx;exact kR hI hi)
      | (refine ⟨a.length - (i+1),by omega,i+1,?_,aJ hI (P:=fun j=>(!hasT (a.take j) (tAt a j))) ?_,by omega,rfl⟩
         · exact congrArg (fun z:Int=>(([argS 9 a,argS 9 a,.val false [.i .i64 a.length],.val false [.i .i64 z]],[]):Snap)) (wrapN hi hl)
         · exact qe hi (by with_reducible assumption)))
  | (show aV _ _;exact rfl)
theorem xk168:FOk Tryz.prog T 168 (spSB 9 du):=by
 refine fok (env:=envL [(201,(spTB bX)),(126,spIn),(202,(spSB 9 kx))]) (N:=23) tabT (aa zA (aa ok126 (aa xk202 ae))) mixed Tryz.func168 rfl Tryz.call168 Tryz.ntmps168 ?_
 rintro args ⟨a,rfl⟩ hwf
 have hl:a.length≤maxLen:=(show WfD T (.l 9) (.l a) from arg0 hwf (jcC _)).len
 refine ⟨by simp,?_⟩
 clear hwf
 rw [Tryz.results168]
 repeat' first
  | (refine And.intro ?_ ?_)
  | (intro h;simp only [reduceCtorEq] at h;done)
  | (intro h;rw [h])
  | (intro h)
 all_goals first
  | skip
 refine am (Q:=_) [0,3] [] (fun n st=>∃ i:Nat,st=([argS 9 a,.val false [.i .i64 (i:Int)]],[])∧(∀ j,j < i→bX (tAt a j)=true)∧i≤a.length∧n=a.length - i) ?_ ?_
 · exact ⟨rfl,a.length,0,rfl,nolt _,jcl _,rfl⟩
 rintro n st ⟨i,rfl,hI,hle,rfl⟩
 repeat' first
  | (refine And.intro ?_ ?_)
  | (intro h;simp only [reduceCtorEq] at h;done)
  | (intro h;rw [h])
  | (intro h)
 all_goals first
  | exact True.intro
  | exact Or.inr rfl
  | with_reducible exact jcy _
  | (have hi:i < a.length:=ltN (by with_reducible assumption)
     first
      | with_reducible exact jck (by with_reducible assumption)
      | (show (i:Int) < _;omega)
        | exact ⟨_,rfl⟩
        | exact ⟨_,_,_,rfl⟩
        | exact qz hi (bm (by with_reducible assumption))
        | (refine iV hI hi ?_;simp_all only [jcN,jcQ,jdf,jc8,jdc,jde,jc7,jc9,jc4,jc6,jcT,jcY,jdh];done)
        | (refine ⟨a.length - (i+1),by omega,i+1,?_,aJ hI (P:=fun j=>bX (tAt a j)) ?_,by omega,rfl⟩
           · exact congrArg (fun z:Int=>(([argS 9 a,.val false [.i .i64 z]],[]):Snap)) (wrapN hi hl)
           · exact aI (by with_reducible assumption)))
  | (have hi:¬ i < a.length:=nltN (by with_reducible assumption)
     first
      | exact ⟨_,rfl⟩
      | exact ⟨_,_,_,rfl⟩
      | (refine iV hI hi ?_;simp_all only [jcN,jcQ,jdf,jc8,jdc,jde,jc7,jc9,jc4,jc6,jcT,jcY,jdh];done)
      | (refine ⟨a.length - (i+1),by omega,i+1,?_,aJ hI (P:=fun j=>bX (tAt a j)) ?_,by omega,rfl⟩
         · exact congrArg (fun z:Int=>(([argS 9 a,.val false [.i .i64 z]],[]):Snap)) (wrapN hi hl)
         · exact aI (by with_reducible assumption)))
  | (show aV _ _;exact rfl)
theorem xk87:FOk Tryz.prog T 87 (spSB 9 du):=by
 refine fok (env:=envL [(132,(spTB bX)),(53,spIn),(133,(spSB 9 kx))]) (N:=22) tabT (aa xk132 (aa ok53 (aa xk133 ae))) mixed Tryz.func87 rfl Tryz.call87 Tryz.ntmps87 ?_
 rintro args ⟨a,rfl⟩ hwf
 have hl:a.length≤maxLen:=(show WfD T (.l 9) (.l a) from arg0 hwf (jcC _)).len
 refine ⟨by simp,?_⟩
 clear hwf
 rw [Tryz.results87]
 repeat' first
  | (refine And.intro ?_ ?_)
  | (intro h;simp only [reduceCtorEq] at h;done)
  | (intro h;rw [h])
  | (intro h)
 all_goals first
  | skip
 refine am (Q:=_) [0,5,6,7] [] (fun n st=>∃ i:Nat,st=([argS 9 a,argS 9 a,.val false [.i .i64 a.length],.val false [.i .i64 (i:Int)]],[])∧(∀ j,j < i→bX (tAt a j)=true)∧i≤a.length∧n=a.length - i) ?_ ?_
 · exact ⟨rfl,a.length,0,rfl,nolt _,jcl _,rfl⟩
 rintro n st ⟨i,rfl,hI,hle,rfl⟩
 repeat' first
  | (refine And.intro ?_ ?_)
  | (intro h;simp only [reduceCtorEq] at h;done)
  | (intro h;rw [h])
  | (intro h)
 all_goals first
  | exact True.intro
  | exact Or.inr rfl
  | with_reducible exact jcy _
  | (have hi:i < a.length:=ltN (by with_reducible assumption)
     first
      | with_reducible exact jck (by with_reducible assumption)
      | (show (i:Int) < _;omega)
        | exact ⟨_,rfl⟩
        | exact ⟨_,_,_,rfl⟩
        | exact qz hi (bm (by with_reducible assumption))
        | (refine iV hI hi ?_;simp_all only [jcN,jcQ,jdf,jc8,jdc,jde,jc7,jc9,jc4,jc6,jcT,jcY,jdh];done)
        | (refine ⟨a.length - (i+1),by omega,i+1,?_,aJ hI (P:=fun j=>bX (tAt a j)) ?_,by omega,rfl⟩
           · exact congrArg (fun z:Int=>(([argS 9 a,argS 9 a,.val false [.i .i64 a.length],.val false [.i .i64 z]],[]):Snap)) (wrapN hi hl)
           · exact aI (by with_reducible assumption)))
  | (have hi:¬ i < a.length:=nltN (by with_reducible assumption)
     first
      | exact ⟨_,rfl⟩
      | exact ⟨_,_,_,rfl⟩
      | (refine iV hI hi ?_;simp_all only [jcN,jcQ,jdf,jc8,jdc,jde,jc7,jc9,jc4,jc6,jcT,jcY,jdh];done)
      | (refine ⟨a.length - (i+1),by omega,i+1,?_,aJ hI (P:=fun j=>bX (tAt a j)) ?_,by omega,rfl⟩
         · exact congrArg (fun z:Int=>(([argS 9 a,argS 9 a,.val false [.i .i64 a.length],.val false [.i .i64 z]],[]):Snap)) (wrapN hi hl)
         · exact aI (by with_reducible assumption)))
  | (show aV _ _;exact rfl)
end Go.Proofs.YtcllpknipmcolaaGreatDoor.Ab
