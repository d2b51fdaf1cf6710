/- A part. -/
import Derived.Test.YtdkofgjbbdbglaaGreatDoorCYs
import Derived.Test.YtdkofgjbbdbglaaGreatDoorCVb
namespace Go.Proofs.YtdkofgjbbdbglaaGreatDoor.Ab
open Go.RowKit
set_option linter.all false
set_option maxRecDepth 100000
set_option maxHeartbeats 2000000
theorem jak:FOk Tryz.prog T 117 (spTB okTxt):=by
 refine fok (env:=envL []) (N:=29) tabT ae mixed Tryz.func117 rfl Tryz.call117 Tryz.ntmps117 ?_
 rintro args ⟨s,rfl⟩ hwf
 have hl:s.size≤maxLen:=arg0 hwf (jdo _)
 refine ⟨by simp,?_⟩
 clear hwf
 rw [Tryz.results117]
 repeat' first
  | refine And.intro ?_ ?_
  | (intro h;simp only [reduceCtorEq] at h;done)
  | (intro h;rw [h])
  | intro h
 all_goals first
  | skip
 refine aj (Q:=_) [0,3] [] (fun n st=>∃ i:Nat,st=([sArg s,.val false [.i .i64 (i:Int)]],[])∧(∀ j,j < i→bF (bAt s j)=true)∧i≤s.size∧n=s.size - i) ?_ ?_
 · exact ⟨rfl,s.size,0,rfl,nolt _,jc7 _,rfl⟩
 rintro n st ⟨i,rfl,hI,hle,rfl⟩
 repeat' first
  | refine And.intro ?_ ?_
  | (intro h;simp only [reduceCtorEq] at h;done)
  | (intro h;rw [h])
  | intro h
 all_goals first
  | exact True.intro
  | exact Or.inr rfl
  | with_reducible exact jdk _
  | (have hi:i < s.size:=ltN (by with_reducible assumption)
     first
      | with_reducible exact jc6 (by with_reducible assumption)
      | (show (i:Int) < _;omega)
        | exact ⟨_,_,_,rfl⟩
        | (unfold okTxt;refine qJ (i:=i) (P:=fun j=>bF (bAt s j)) hi ?_;first|(show _=_;simp_all only [bF,jdz,jdC,jd1,jdU,jdY,jd0,jdT,jdV,jdQ,jdS,jdF,jdK,jd3];done)|skip;done)
        | (unfold okTxt;exact jc (P:=fun j=>bF (bAt s j)) hI hi rfl)
        | (refine ⟨s.size - (i+1),by omega,i+1,?_,aK hI (P:=fun j=>bF (bAt s j)) ?_,by omega,rfl⟩
           · exact congrArg (fun z:Int=>(([sArg s,.val false [.i .i64 z]],[]):Snap)) (wrapN hi hl)
           · first|(show _=_;simp_all only [bF,jdz,jdC,jd1,jdU,jdY,jd0,jdT,jdV,jdQ,jdS,jdF,jdK,jd3];done)|skip;done))
  | (have hi:¬ i < s.size:=nltN (by with_reducible assumption)
     first
      | (unfold okTxt;exact jc (P:=fun j=>bF (bAt s j)) hI hi rfl)
      | (refine ⟨s.size - (i+1),by omega,i+1,?_,aK hI (P:=fun j=>bF (bAt s j)) ?_,by omega,rfl⟩
         · exact congrArg (fun z:Int=>(([sArg s,.val false [.i .i64 z]],[]):Snap)) (wrapN hi hl)
         · first|(show _=_;simp_all only [bF,jdz,jdC,jd1,jdU,jdY,jd0,jdT,jdV,jdQ,jdS,jdF,jdK,jd3];done)|skip;done))
  | (show aX _ _;exact rfl)
theorem xk84:FOk Tryz.prog T 84 (spTB okTxt):=by
 refine fok (env:=envL []) (N:=29) tabT ae mixed Tryz.func84 rfl Tryz.call84 Tryz.ntmps84 ?_
 rintro args ⟨s,rfl⟩ hwf
 have hl:s.size≤maxLen:=arg0 hwf (jdo _)
 refine ⟨by simp,?_⟩
 clear hwf
 rw [Tryz.results84]
 repeat' first
  | refine And.intro ?_ ?_
  | (intro h;simp only [reduceCtorEq] at h;done)
  | (intro h;rw [h])
  | intro h
 all_goals first
  | skip
 refine aj (Q:=_) [0,3] [] (fun n st=>∃ i:Nat,st=([sArg s,.val false [.i .i64 (i:Int)]],[])∧(∀ j,j < i→bF (bAt s j)=true)∧i≤s.size∧n=s.size - i) ?_ ?_
 · exact ⟨rfl,s.size,0,rfl,nolt _,jc7 _,rfl⟩
 rintro n st ⟨i,rfl,hI,hle,rfl⟩
 repeat' first
  | refine And.intro ?_ ?_
  | (intro h;simp only [reduceCtorEq] at h;done)
  | (intro h;rw [h])
  | intro h
 all_goals first
  | exact True.intro
  | exact Or.inr rfl
  | with_reducible exact jdk _
  | (have hi:i < s.size:=ltN (by with_reducible assumption)
     first
      | with_reducible exact jc6 (by with_reducible assumption)
      | (show (i:Int) < _;omega)
        | exact ⟨_,_,_,rfl⟩
        | (unfold okTxt;refine qJ (i:=i) (P:=fun j=>bF (bAt s j)) hi ?_;first|(show _=_;simp_all only [bF,jdz,jdC,jd1,jdU,jdY,jd0,jdT,jdV,jdQ,jdS,jdF,jdK,jd3];done)|skip;done)
        | (unfold okTxt;exact jc (P:=fun j=>bF (bAt s j)) hI hi rfl)
        | (refine ⟨s.size - (i+1),by omega,i+1,?_,aK hI (P:=fun j=>bF (bAt s j)) ?_,by omega,rfl⟩
           · exact congrArg (fun z:Int=>(([sArg s,.val false [.i .i64 z]],[]):Snap)) (wrapN hi hl)
           · first|(show _=_;simp_all only [bF,jdz,jdC,jd1,jdU,jdY,jd0,jdT,jdV,jdQ,jdS,jdF,jdK,jd3];done)|skip;done))
  | (have hi:¬ i < s.size:=nltN (by with_reducible assumption)
     first
      | (unfold okTxt;exact jc (P:=fun j=>bF (bAt s j)) hI hi rfl)
      | (refine ⟨s.size - (i+1),by omega,i+1,?_,aK hI (P:=fun j=>bF (bAt s j)) ?_,by omega,rfl⟩
         · exact congrArg (fun z:Int=>(([sArg s,.val false [.i .i64 z]],[]):Snap)) (wrapN hi hl)
         · first|(show _=_;simp_all only [bF,jdz,jdC,jd1,jdU,jdY,jd0,jdT,jdV,jdQ,jdS,jdF,jdK,jd3];done)|skip;done))
  | (show aX _ _;exact rfl)
theorem xk226:FOk Tryz.prog T 226 (spTB iQ):=by
 refine fok (env:=envL []) (N:=45) tabT ae mixed Tryz.func226 rfl Tryz.call226 Tryz.ntmps226 ?_
 rintro args ⟨s,rfl⟩ hwf
 have hl:s.size≤maxLen:=arg0 hwf (jdo _)
 refine ⟨by simp,?_⟩
 clear hwf
 rw [Tryz.results226]
 repeat' first
  | refine And.intro ?_ ?_
  | (intro h;simp only [reduceCtorEq] at h;done)
  | (intro h;rw [h])
  | intro h
 all_goals first
  | skip
 refine aj (Q:=_) [0,3] [] (fun n st=>∃ i:Nat,st=([sArg s,.val false [.i .i64 (i:Int)]],[])∧(∀ j,j < i→cJ s j=true)∧i≤s.size∧n=s.size - i) ?_ ?_
 · exact ⟨rfl,s.size,0,rfl,nolt _,jc7 _,rfl⟩
 rintro n st ⟨i,rfl,hI,hle,rfl⟩
 repeat' first
  | refine And.intro ?_ ?_
  | (intro h;simp only [reduceCtorEq] at h;done)
  | (intro h;rw [h])
  | intro h
 all_goals first
  | exact True.intro
  | exact Or.inr rfl
  | with_reducible exact jdk _
  | (have hi:i < s.size:=ltN (by with_reducible assumption)
     first
      | with_reducible exact jc6 (by with_reducible assumption)
      | (show (i:Int) < _;omega)
        | exact ⟨_,_,_,rfl⟩
        | (unfold iQ;refine qJ (i:=i) (P:=fun j=>cJ s j) hi ?_;first|(show _=_;simp_all only [cJ,letB,digB,jdz,jdC,jd1,jdU,jdY,jd0,jdT,jdV,jdQ,jdS,jdF,jdK,jd3];done)|skip;done)
        | (unfold iQ;exact jc (P:=fun j=>cJ s j) hI hi rfl)
        | (refine ⟨s.size - (i+1),by omega,i+1,?_,aK hI (P:=fun j=>cJ s j) ?_,by omega,rfl⟩
           · exact congrArg (fun z:Int=>(([sArg s,.val false [.i .i64 z]],[]):Snap)) (wrapN hi hl)
           · first|(show _=_;simp_all only [cJ,letB,digB,jdz,jdC,jd1,jdU,jdY,jd0,jdT,jdV,jdQ,jdS,jdF,jdK,jd3];done)|skip;done))
  | (have hi:¬ i < s.size:=nltN (by with_reducible assumption)
     first
      | (unfold iQ;exact jc (P:=fun j=>cJ s j) hI hi rfl)
      | (refine ⟨s.size - (i+1),by omega,i+1,?_,aK hI (P:=fun j=>cJ s j) ?_,by omega,rfl⟩
         · exact congrArg (fun z:Int=>(([sArg s,.val false [.i .i64 z]],[]):Snap)) (wrapN hi hl)
         · first|(show _=_;simp_all only [cJ,letB,digB,jdz,jdC,jd1,jdU,jdY,jd0,jdT,jdV,jdQ,jdS,jdF,jdK,jd3];done)|skip;done))
  | (show aX _ _;exact rfl)
  | exact absurd (show (!false)=false by with_reducible assumption) (by decide)
theorem xk200:FOk Tryz.prog T 200 (spTB iR):=by
 refine fok (env:=envL [(33,spIn)]) (N:=42) tabT (aa ok33 ae) mixed Tryz.func200 rfl Tryz.call200 Tryz.ntmps200 ?_
 rintro args ⟨s,rfl⟩ hwf
 have hl:s.size≤maxLen:=arg0 hwf (jdo _)
 refine ⟨by simp,?_⟩
 clear hwf
 rw [Tryz.results200]
 repeat' first
  | refine And.intro ?_ ?_
  | (intro h;simp only [reduceCtorEq] at h;done)
  | (intro h;rw [h])
  | intro h
 all_goals first
  | skip
 refine aj (Q:=_) [0,3] [] (fun n st=>∃ i:Nat,st=([sArg s,.val false [.i .i64 (i:Int)]],[])∧(∀ j,j < i→cJ s j=true)∧i≤s.size∧n=s.size - i) ?_ ?_
 · exact ⟨rfl,s.size,0,rfl,nolt _,jc7 _,rfl⟩
 rintro n st ⟨i,rfl,hI,hle,rfl⟩
 repeat' first
  | refine And.intro ?_ ?_
  | (intro h;simp only [reduceCtorEq] at h;done)
  | (intro h;rw [h])
  | intro h
 all_goals first
  | exact True.intro
  | exact Or.inr rfl
  | with_reducible exact jdk _
  | (have hi:i < s.size:=ltN (by with_reducible assumption)
     first
      | with_reducible exact jc6 (by with_reducible assumption)
      | (show (i:Int) < _;omega)
        | exact ⟨_,_,_,rfl⟩
        | (unfold iR;refine qJ (i:=i) (P:=fun j=>cJ s j) hi ?_;first|(show _=_;simp_all only [cJ,letB,digB,jdz,jdC,jd1,jdU,jdY,jd0,jdT,jdV,jdQ,jdS,jdF,jdK,jd3];done)|(show _=_;simp_all only [cJ,letB,digB,lt48,gt57,jdz,jdC,jd1,jdU,jdY,jd0,jdT,jdV,jdQ,jdS,jdF,jdK,jd3];done))
        | (unfold iR;exact jc (P:=fun j=>cJ s j) hI hi rfl)
        | (refine ⟨s.size - (i+1),by omega,i+1,?_,aK hI (P:=fun j=>cJ s j) ?_,by omega,rfl⟩
           · exact congrArg (fun z:Int=>(([sArg s,.val false [.i .i64 z]],[]):Snap)) (wrapN hi hl)
           · first|(show _=_;simp_all only [cJ,letB,digB,jdz,jdC,jd1,jdU,jdY,jd0,jdT,jdV,jdQ,jdS,jdF,jdK,jd3];done)|(show _=_;simp_all only [cJ,letB,digB,lt48,gt57,jdz,jdC,jd1,jdU,jdY,jd0,jdT,jdV,jdQ,jdS,jdF,jdK,jd3];done)))
  | (have hi:¬ i < s.size:=nltN (by with_reducible assumption)
     first
      | exact ⟨_,_,_,rfl⟩
      | (unfold iR;exact jc (P:=fun j=>cJ s j) hI hi rfl)
      | (refine ⟨s.size - (i+1),by omega,i+1,?_,aK hI (P:=fun j=>cJ s j) ?_,by omega,rfl⟩
         · exact congrArg (fun z:Int=>(([sArg s,.val false [.i .i64 z]],[]):Snap)) (wrapN hi hl)
         · first|(show _=_;simp_all only [cJ,letB,digB,jdz,jdC,jd1,jdU,jdY,jd0,jdT,jdV,jdQ,jdS,jdF,jdK,jd3];done)|(show _=_;simp_all only [cJ,letB,digB,lt48,gt57,jdz,jdC,jd1,jdU,jdY,jd0,jdT,jdV,jdQ,jdS,jdF,jdK,jd3];done)))
  | (show aX _ _;exact rfl)
  | exact absurd (show (!false)=false by with_reducible assumption) (by decide)
theorem xk234:FOk Tryz.prog T 234 (rS resvB):=by
 refine fok (env:=envL []) (N:=2) tabT ae mixed Tryz.func234 rfl Tryz.call234 Tryz.ntmps234 ?_
 rintro args rfl hwf
 refine ⟨by simp,?_⟩
 clear hwf
 rw [Tryz.results234]
 repeat' first
  | refine And.intro ?_ ?_
  | (intro h;simp only [reduceCtorEq] at h;done)
  | (intro h;rw [h])
  | intro h
 all_goals first
  | exact True.intro
  | exact Or.inr rfl
  | exact rfl
theorem jad:FOk Tryz.prog T 228 (yM hasT):=by
 refine fok (env:=envL []) (N:=18) tabT ae mixed Tryz.func228 rfl Tryz.call228 Tryz.ntmps228 ?_
 rintro args ⟨a,s,rfl⟩ hwf
 have hl:a.length≤maxLen:=(show WfD T (.l 9) (.l a) from arg0 hwf (jdo _)).len
 refine ⟨by simp,?_⟩
 clear hwf
 rw [Tryz.results228]
 repeat' first
  | refine And.intro ?_ ?_
  | (intro h;simp only [reduceCtorEq] at h;done)
  | (intro h;rw [h])
  | intro h
 all_goals first
  | skip
 refine aj (Q:=_) [0,1,5] [] (fun n st=>∃ i:Nat,st=([argS 9 a,sArg s,.val false [.i .i64 (i:Int)]],[])∧(∀ j,j < i→(!isAt a s j)=true)∧i≤a.length∧n=a.length - i) ?_ ?_
 · exact ⟨rfl,a.length,0,rfl,nolt _,jc7 _,rfl⟩
 rintro n st ⟨i,rfl,hI,hle,rfl⟩
 repeat' first
  | refine And.intro ?_ ?_
  | (intro h;simp only [reduceCtorEq] at h;done)
  | (intro h;rw [h])
  | intro h
 all_goals first
  | exact True.intro
  | exact Or.inr rfl
  | with_reducible exact jdk _
  | (have hi:i < a.length:=ltN (by with_reducible assumption)
     first
      | with_reducible exact jc6 (by with_reducible assumption)
      | (show (i:Int) < _;omega)
        | exact resBn (P:=fun j=>!isAt a s j) hi (notT (by with_reducible assumption))
        | exact jbw (P:=fun j=>!isAt a s j) hI hi
        | (refine ⟨a.length - (i+1),by omega,i+1,?_,aK hI (P:=fun j=>(!isAt a s j)) ?_,by omega,rfl⟩
           · exact congrArg (fun z:Int=>(([argS 9 a,sArg s,.val false [.i .i64 z]],[]):Snap)) (wrapN hi hl)
           · exact notF (by with_reducible assumption)))
  | (have hi:¬ i < a.length:=nltN (by with_reducible assumption)
     first
      | exact jbw (P:=fun j=>!isAt a s j) hI hi
      | (refine ⟨a.length - (i+1),by omega,i+1,?_,aK hI (P:=fun j=>(!isAt a s j)) ?_,by omega,rfl⟩
         · exact congrArg (fun z:Int=>(([argS 9 a,sArg s,.val false [.i .i64 z]],[]):Snap)) (wrapN hi hl)
         · exact notF (by with_reducible assumption)))
  | (show aX _ _;exact rfl)
theorem xk175:FOk Tryz.prog T 175 (rW idxT):=by
 refine fok (env:=envL []) (N:=19) tabT ae mixed Tryz.func175 rfl Tryz.call175 Tryz.ntmps175 ?_
 rintro args ⟨a,s,rfl⟩ hwf
 have hl:a.length≤maxLen:=(show WfD T (.l 9) (.l a) from arg0 hwf (jdo _)).len
 refine ⟨by simp,?_⟩
 clear hwf
 rw [Tryz.results175]
 repeat' first
  | refine And.intro ?_ ?_
  | (intro h;simp only [reduceCtorEq] at h;done)
  | (intro h;rw [h])
  | intro h
 all_goals first
  | skip
 refine aj (Q:=_) [0,1,5] [] (fun n st=>∃ i:Nat,st=([argS 9 a,sArg s,.val false [.i .i64 (i:Int)]],[])∧(∀ j,j < i→(!isAt a s j)=true)∧i≤a.length∧n=a.length - i) ?_ ?_
 · exact ⟨rfl,a.length,0,rfl,nolt _,jc7 _,rfl⟩
 rintro n st ⟨i,rfl,hI,hle,rfl⟩
 repeat' first
  | refine And.intro ?_ ?_
  | (intro h;simp only [reduceCtorEq] at h;done)
  | (intro h;rw [h])
  | intro h
 all_goals first
  | exact True.intro
  | exact Or.inr rfl
  | with_reducible exact jdk _
  | (have hi:i < a.length:=ltN (by with_reducible assumption)
     first
      | with_reducible exact jc6 (by with_reducible assumption)
      | (show (i:Int) < _;omega)
        | exact jbu (P:=isAt a s) hi (by with_reducible assumption) hI
        | exact vC (P:=isAt a s) hI hi
        | (refine ⟨a.length - (i+1),by omega,i+1,?_,aK hI (P:=fun j=>(!isAt a s j)) ?_,by omega,rfl⟩
           · exact congrArg (fun z:Int=>(([argS 9 a,sArg s,.val false [.i .i64 z]],[]):Snap)) (wrapN hi hl)
           · exact notF (by with_reducible assumption)))
  | (have hi:¬ i < a.length:=nltN (by with_reducible assumption)
     first
      | exact vC (P:=isAt a s) hI hi
      | (refine ⟨a.length - (i+1),by omega,i+1,?_,aK hI (P:=fun j=>(!isAt a s j)) ?_,by omega,rfl⟩
         · exact congrArg (fun z:Int=>(([argS 9 a,sArg s,.val false [.i .i64 z]],[]):Snap)) (wrapN hi hl)
         · exact notF (by with_reducible assumption)))
  | (show aX _ _;exact rfl)
theorem jah:FOk Tryz.prog T 186 (rW idxT):=by
 refine fok (env:=envL []) (N:=19) tabT ae mixed Tryz.func186 rfl Tryz.call186 Tryz.ntmps186 ?_
 rintro args ⟨a,s,rfl⟩ hwf
 have hl:a.length≤maxLen:=(show WfD T (.l 9) (.l a) from arg0 hwf (jdo _)).len
 refine ⟨by simp,?_⟩
 clear hwf
 rw [Tryz.results186]
 repeat' first
  | refine And.intro ?_ ?_
  | (intro h;simp only [reduceCtorEq] at h;done)
  | (intro h;rw [h])
  | intro h
 all_goals first
  | skip
 refine aj (Q:=_) [0,1,7,8,9] [] (fun n st=>∃ i:Nat,st=([argS 9 a,sArg s,argS 9 a,.val false [.i .i64 a.length],.val false [.i .i64 (i:Int)]],[])∧(∀ j,j < i→(!isAt a s j)=true)∧i≤a.length∧n=a.length - i) ?_ ?_
 · exact ⟨rfl,a.length,0,rfl,nolt _,jc7 _,rfl⟩
 rintro n st ⟨i,rfl,hI,hle,rfl⟩
 repeat' first
  | refine And.intro ?_ ?_
  | (intro h;simp only [reduceCtorEq] at h;done)
  | (intro h;rw [h])
  | intro h
 all_goals first
  | exact True.intro
  | exact Or.inr rfl
  | with_reducible exact jdk _
  | (have hi:i < a.length:=ltN (by with_reducible assumption)
     first
      | with_reducible exact jc6 (by with_reducible assumption)
      | (show (i:Int) < _;omega)
        | exact jbu (P:=isAt a s) hi (by with_reducible assumption) hI
        | exact vC (P:=isAt a s) hI hi
        | (refine ⟨a.length - (i+1),by omega,i+1,?_,aK hI (P:=fun j=>(!isAt a s j)) ?_,by omega,rfl⟩
           · exact congrArg (fun z:Int=>(([argS 9 a,sArg s,argS 9 a,.val false [.i .i64 a.length],.val false [.i .i64 z]],[]):Snap)) (wrapN hi hl)
           · exact notF (by with_reducible assumption)))
  | (have hi:¬ i < a.length:=nltN (by with_reducible assumption)
     first
      | exact vC (P:=isAt a s) hI hi
      | (refine ⟨a.length - (i+1),by omega,i+1,?_,aK hI (P:=fun j=>(!isAt a s j)) ?_,by omega,rfl⟩
         · exact congrArg (fun z:Int=>(([argS 9 a,sArg s,argS 9 a,.val false [.i .i64 a.length],.val false [.i .i64 z]],[]):Snap)) (wrapN hi hl)
         · exact notF (by with_reducible assumption)))
  | (show aX _ _;exact rfl)
theorem xk227:FOk Tryz.prog T 227 (spTB fa):=by
 refine fok (env:=envL [(234,(rS resvB)),(228,(yM hasT))]) (N:=6) tabT (aa xk234 (aa jad ae)) mixed Tryz.func227 rfl Tryz.call227 Tryz.ntmps227 ?_
 rintro args ⟨s,rfl⟩ hwf
 refine ⟨by simp,?_⟩
 clear hwf
 rw [Tryz.results227]
 repeat' first
  | refine And.intro ?_ ?_
  | (intro h;simp only [reduceCtorEq] at h;done)
  | (intro h;rw [h])
  | intro h
 all_goals first
  | exact True.intro
  | exact Or.inr rfl
  | exact rfl
  | exact ⟨_,_,rfl⟩
  | exact resB (tZ s)
theorem xk223:FOk Tryz.prog T 223 xl:=by
 refine fok (env:=envL []) (N:=26) tabT ae mixed Tryz.func223 rfl Tryz.call223 Tryz.ntmps223 ?_
 rintro args ⟨s,rfl⟩ hwf
 refine ⟨by simp,?_⟩
 clear hwf
 rw [Tryz.results223]
 repeat' first
  | refine And.intro ?_ ?_
  | (intro h;simp only [reduceCtorEq] at h;done)
  | (intro h;rw [h])
  | intro h
 all_goals first
  | exact True.intro
  | exact Or.inr rfl
  | (refine resI ?_;simp only [argC, *,if_true,jdY,jd0,jdT,jdV];done)
  | (refine resI ?_;simp only [argC, *,if_true,jdY,jd0,jdT,jdV];rfl)
theorem xk201:FOk Tryz.prog T 201 (spTB fa):=by
 refine fok (env:=envL [(223,xl)]) (N:=15) tabT (aa xk223 ae) mixed Tryz.func201 rfl Tryz.call201 Tryz.ntmps201 ?_
 rintro args ⟨s,rfl⟩ hwf
 refine ⟨by simp,?_⟩
 clear hwf
 rw [Tryz.results201]
 repeat' first
  | refine And.intro ?_ ?_
  | (intro h;simp only [reduceCtorEq] at h;done)
  | (intro h;rw [h])
  | intro h
 all_goals first
  | exact True.intro
  | exact Or.inr rfl
  | exact ⟨_,rfl⟩
  | (refine resB ((?_:_=vA s).trans (vz s));simp only [vA, *,jdY,jd0,jdT,jdV];done)
theorem jae:FOk Tryz.prog T 209 (spTB bZ):=by
 refine fok (env:=envL [(226,(spTB iQ)),(227,(spTB fa))]) (N:=15) tabT (aa xk226 (aa xk227 ae)) mixed Tryz.func209 rfl Tryz.call209 Tryz.ntmps209 ?_
 rintro args ⟨s,rfl⟩ hwf
 refine ⟨by simp,?_⟩
 clear hwf
 rw [Tryz.results209]
 repeat' first
  | refine And.intro ?_ ?_
  | (intro h;simp only [reduceCtorEq] at h;done)
  | (intro h;rw [h])
  | intro h
 all_goals first
  | exact True.intro
  | exact Or.inr rfl
  | exact ⟨_,rfl⟩
  | (refine resB ?_;simp_all only [bZ,jdz,jdC,jd1,jdU,jdY,jd0,jdT,jdV,jdQ,jdS,jdF,jdK,jd3];done)
theorem xk161:FOk Tryz.prog T 161 (spTB bZ):=by
 refine fok (env:=envL [(200,(spTB iR)),(201,(spTB fa))]) (N:=10) tabT (aa xk200 (aa xk201 ae)) mixed Tryz.func161 rfl Tryz.call161 Tryz.ntmps161 ?_
 rintro args ⟨s,rfl⟩ hwf
 refine ⟨by simp,?_⟩
 clear hwf
 rw [Tryz.results161]
 repeat' first
  | refine And.intro ?_ ?_
  | (intro h;simp only [reduceCtorEq] at h;done)
  | (intro h;rw [h])
  | intro h
 all_goals first
  | exact True.intro
  | exact Or.inr rfl
  | exact ⟨_,rfl⟩
  | (refine resB ((?_:_=(iR s && !fa s)).trans (tw s));simp_all only [jdz,jdC,jd1,jdU,jdY,jd0,jdT,jdV,jdQ,jdS,jdF,jdK,jd3];done)
theorem xk210:FOk Tryz.prog T 210 (spSB 9 kJ):=by
 refine fok (env:=envL [(228,(yM hasT))]) (N:=18) tabT (aa jad ae) mixed Tryz.func210 rfl Tryz.call210 Tryz.ntmps210 ?_
 rintro args ⟨a,rfl⟩ hwf
 have hl:a.length≤maxLen:=(show WfD T (.l 9) (.l a) from arg0 hwf (jdo _)).len
 refine ⟨by simp,?_⟩
 clear hwf
 rw [Tryz.results210]
 repeat' first
  | refine And.intro ?_ ?_
  | (intro h;simp only [reduceCtorEq] at h;done)
  | (intro h;rw [h])
  | intro h
 all_goals first
  | skip
 refine aj (Q:=_) [0,3] [] (fun n st=>∃ i:Nat,st=([argS 9 a,.val false [.i .i64 (i:Int)]],[])∧(∀ j,j < i→(!hasT (a.take j) (tAt a j))=true)∧i≤a.length∧n=a.length - i) ?_ ?_
 · exact ⟨rfl,a.length,0,rfl,nolt _,jc7 _,rfl⟩
 rintro n st ⟨i,rfl,hI,hle,rfl⟩
 repeat' first
  | refine And.intro ?_ ?_
  | (intro h;simp only [reduceCtorEq] at h;done)
  | (intro h;rw [h])
  | intro h
 all_goals first
  | (show av _=true;kernel_rfl)
  | (show ba _ _=true;kernel_rfl)
  | exact True.intro
  | exact Or.inr rfl
  | with_reducible exact jdk _
  | (have hi:i < a.length:=ltN (by with_reducible assumption)
     first
      | with_reducible exact jc6 (by with_reducible assumption)
      | (show (i:Int) < _;omega)
        | exact ⟨_,_,rfl⟩
        | (show (i:Int)≤_;omega)
        | (show i≤_;omega)
        | exact jdR _
        | exact m6 (P:=fun j=>!hasT (a.take j) (tAt a j)) hi (notT (b:=hasT (a.take i) (tAt a i)) (show hasT (List.drop (Int.toNat 0) (List.take (Int.toNat (i:Int)) a)) (tAt a i)=true by with_reducible assumption))
        | (unfold kJ;exact k9 hI hi)
        | (refine ⟨a.length - (i+1),by omega,i+1,?_,aK hI (P:=fun j=>(!hasT (a.take j) (tAt a j))) ?_,by omega,rfl⟩
           · exact congrArg (fun z:Int=>(([argS 9 a,.val false [.i .i64 z]],[]):Snap)) (wrapN hi hl)
           · exact notF (b:=hasT (a.take i) (tAt a i)) (show hasT (List.drop (Int.toNat 0) (List.take (Int.toNat (i:Int)) a)) (tAt a i)=false by with_reducible assumption)))
  | (have hi:¬ i < a.length:=nltN (by with_reducible assumption)
     first
      | (unfold kJ;exact k9 hI hi)
      | (refine ⟨a.length - (i+1),by omega,i+1,?_,aK hI (P:=fun j=>(!hasT (a.take j) (tAt a j))) ?_,by omega,rfl⟩
         · exact congrArg (fun z:Int=>(([argS 9 a,.val false [.i .i64 z]],[]):Snap)) (wrapN hi hl)
         · exact notF (b:=hasT (a.take i) (tAt a i)) (show hasT (List.drop (Int.toNat 0) (List.take (Int.toNat (i:Int)) a)) (tAt a i)=false by with_reducible assumption)))
  | (show aX _ _;exact rfl)
theorem xk162:FOk Tryz.prog T 162 (spSB 9 kJ):=by
 refine fok (env:=envL [(186,(rW idxT))]) (N:=18) tabT (aa jah ae) mixed Tryz.func162 rfl Tryz.call162 Tryz.ntmps162 ?_
 rintro args ⟨a,rfl⟩ hwf
 have hl:a.length≤maxLen:=(show WfD T (.l 9) (.l a) from arg0 hwf (jdo _)).len
 refine ⟨by simp,?_⟩
 clear hwf
 rw [Tryz.results162]
 repeat' first
  | refine And.intro ?_ ?_
  | (intro h;simp only [reduceCtorEq] at h;done)
  | (intro h;rw [h])
  | intro h
 all_goals first
  | skip
 refine aj (Q:=_) [0,5,6,7] [] (fun n st=>∃ i:Nat,st=([argS 9 a,argS 9 a,.val false [.i .i64 a.length],.val false [.i .i64 (i:Int)]],[])∧(∀ j,j < i→(!hasT (a.take j) (tAt a j))=true)∧i≤a.length∧n=a.length - i) ?_ ?_
 · exact ⟨rfl,a.length,0,rfl,nolt _,jc7 _,rfl⟩
 rintro n st ⟨i,rfl,hI,hle,rfl⟩
 repeat' first
  | refine And.intro ?_ ?_
  | (intro h;simp only [reduceCtorEq] at h;done)
  | (intro h;rw [h])
  | intro h
 all_goals first
  | exact True.intro
  | exact Or.inr rfl
  | with_reducible exact jdk _
  | (have hi:i < a.length:=ltN (by with_reducible assumption)
     first
      | with_reducible exact jc6 (by with_reducible assumption)
      | (show (i:Int) < _;omega)
        | exact ⟨_,_,rfl⟩
        | exact m6 (P:=fun j=>!hasT (a.take j) (tAt a j)) hi (zT hi (by with_reducible assumption))
        | (unfold kJ;exact k9 hI hi)
        | (refine ⟨a.length - (i+1),by omega,i+1,?_,aK hI (P:=fun j=>(!hasT (a.take j) (tAt a j))) ?_,by omega,rfl⟩
           · exact congrArg (fun z:Int=>(([argS 9 a,argS 9 a,.val false [.i .i64 a.length],.val false [.i .i64 z]],[]):Snap)) (wrapN hi hl)
           · exact ql hi (by with_reducible assumption)))
  | (have hi:¬ i < a.length:=nltN (by with_reducible assumption)
     first
      | (unfold kJ;exact k9 hI hi)
      | (refine ⟨a.length - (i+1),by omega,i+1,?_,aK hI (P:=fun j=>(!hasT (a.take j) (tAt a j))) ?_,by omega,rfl⟩
         · exact congrArg (fun z:Int=>(([argS 9 a,argS 9 a,.val false [.i .i64 a.length],.val false [.i .i64 z]],[]):Snap)) (wrapN hi hl)
         · exact ql hi (by with_reducible assumption)))
  | (show aX _ _;exact rfl)
theorem xk171:FOk Tryz.prog T 171 (spSB 9 dw):=by
 refine fok (env:=envL [(209,(spTB bZ)),(37,spIn),(210,(spSB 9 kJ))]) (N:=23) tabT (aa jae (aa ok37 (aa xk210 ae))) mixed Tryz.func171 rfl Tryz.call171 Tryz.ntmps171 ?_
 rintro args ⟨a,rfl⟩ hwf
 have hl:a.length≤maxLen:=(show WfD T (.l 9) (.l a) from arg0 hwf (jdo _)).len
 refine ⟨by simp,?_⟩
 clear hwf
 rw [Tryz.results171]
 repeat' first
  | refine And.intro ?_ ?_
  | (intro h;simp only [reduceCtorEq] at h;done)
  | (intro h;rw [h])
  | intro h
 all_goals first
  | skip
 refine aj (Q:=_) [0,3] [] (fun n st=>∃ i:Nat,st=([argS 9 a,.val false [.i .i64 (i:Int)]],[])∧(∀ j,j < i→bZ (tAt a j)=true)∧i≤a.length∧n=a.length - i) ?_ ?_
 · exact ⟨rfl,a.length,0,rfl,nolt _,jc7 _,rfl⟩
 rintro n st ⟨i,rfl,hI,hle,rfl⟩
 repeat' first
  | refine And.intro ?_ ?_
  | (intro h;simp only [reduceCtorEq] at h;done)
  | (intro h;rw [h])
  | intro h
 all_goals first
  | exact True.intro
  | exact Or.inr rfl
  | with_reducible exact jdk _
  | (have hi:i < a.length:=ltN (by with_reducible assumption)
     first
      | with_reducible exact jc6 (by with_reducible assumption)
      | (show (i:Int) < _;omega)
        | exact ⟨_,rfl⟩
        | exact ⟨_,_,_,rfl⟩
        | exact qJ hi (bi (by with_reducible assumption))
        | (refine jc hI hi ?_;simp_all only [jdz,jdC,jd1,jdU,jdY,jd0,jdT,jdV,jdQ,jdS,jdF,jdK,jd3];done)
        | (refine ⟨a.length - (i+1),by omega,i+1,?_,aK hI (P:=fun j=>bZ (tAt a j)) ?_,by omega,rfl⟩
           · exact congrArg (fun z:Int=>(([argS 9 a,.val false [.i .i64 z]],[]):Snap)) (wrapN hi hl)
           · exact aE (by with_reducible assumption)))
  | (have hi:¬ i < a.length:=nltN (by with_reducible assumption)
     first
      | exact ⟨_,rfl⟩
      | exact ⟨_,_,_,rfl⟩
      | (refine jc hI hi ?_;simp_all only [jdz,jdC,jd1,jdU,jdY,jd0,jdT,jdV,jdQ,jdS,jdF,jdK,jd3];done)
      | (refine ⟨a.length - (i+1),by omega,i+1,?_,aK hI (P:=fun j=>bZ (tAt a j)) ?_,by omega,rfl⟩
         · exact congrArg (fun z:Int=>(([argS 9 a,.val false [.i .i64 z]],[]):Snap)) (wrapN hi hl)
         · exact aE (by with_reducible assumption)))
  | (show aX _ _;exact rfl)
theorem xk111:FOk Tryz.prog T 111 (spSB 9 dw):=by
 refine fok (env:=envL [(161,(spTB bZ)),(33,spIn),(162,(spSB 9 kJ))]) (N:=22) tabT (aa xk161 (aa ok33 (aa xk162 ae))) mixed Tryz.func111 rfl Tryz.call111 Tryz.ntmps111 ?_
 rintro args ⟨a,rfl⟩ hwf
 have hl:a.length≤maxLen:=(show WfD T (.l 9) (.l a) from arg0 hwf (jdo _)).len
 refine ⟨by simp,?_⟩
 clear hwf
 rw [Tryz.results111]
 repeat' first
  | refine And.intro ?_ ?_
  | (intro h;simp only [reduceCtorEq] at h;done)
  | (intro h;rw [h])
  | intro h
 all_goals first
  | skip
 refine aj (Q:=_) [0,5,6,7] [] (fun n st=>∃ i:Nat,st=([argS 9 a,argS 9 a,.val false [.i .i64 a.length],.val false [.i .i64 (i:Int)]],[])∧(∀ j,j < i→bZ (tAt a j)=true)∧i≤a.length∧n=a.length - i) ?_ ?_
 · exact ⟨rfl,a.length,0,rfl,nolt _,jc7 _,rfl⟩
 rintro n st ⟨i,rfl,hI,hle,rfl⟩
 repeat' first
  | refine And.intro ?_ ?_
  | (intro h;simp only [reduceCtorEq] at h;done)
  | (intro h;rw [h])
  | intro h
 all_goals first
  | exact True.intro
  | exact Or.inr rfl
  | with_reducible exact jdk _
  | (have hi:i < a.length:=ltN (by with_reducible assumption)
     first
      | with_reducible exact jc6 (by with_reducible assumption)
      | (show (i:Int) < _;omega)
        | exact ⟨_,rfl⟩
        | exact ⟨_,_,_,rfl⟩
        | exact qJ hi (bi (by with_reducible assumption))
        | (refine jc hI hi ?_;simp_all only [jdz,jdC,jd1,jdU,jdY,jd0,jdT,jdV,jdQ,jdS,jdF,jdK,jd3];done)
        | (refine ⟨a.length - (i+1),by omega,i+1,?_,aK hI (P:=fun j=>bZ (tAt a j)) ?_,by omega,rfl⟩
           · exact congrArg (fun z:Int=>(([argS 9 a,argS 9 a,.val false [.i .i64 a.length],.val false [.i .i64 z]],[]):Snap)) (wrapN hi hl)
           · exact aE (by with_reducible assumption)))
  | (have hi:¬ i < a.length:=nltN (by with_reducible assumption)
     first
      | exact ⟨_,rfl⟩
      | exact ⟨_,_,_,rfl⟩
      | (refine jc hI hi ?_;simp_all only [jdz,jdC,jd1,jdU,jdY,jd0,jdT,jdV,jdQ,jdS,jdF,jdK,jd3];done)
      | (refine ⟨a.length - (i+1),by omega,i+1,?_,aK hI (P:=fun j=>bZ (tAt a j)) ?_,by omega,rfl⟩
         · exact congrArg (fun z:Int=>(([argS 9 a,argS 9 a,.val false [.i .i64 a.length],.val false [.i .i64 z]],[]):Snap)) (wrapN hi hl)
         · exact aE (by with_reducible assumption)))
  | (show aX _ _;exact rfl)
end Go.Proofs.YtdkofgjbbdbglaaGreatDoor.Ab
