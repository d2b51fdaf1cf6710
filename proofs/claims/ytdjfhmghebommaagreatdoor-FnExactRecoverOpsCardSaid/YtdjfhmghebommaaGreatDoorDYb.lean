/- A part. -/
import Derived.Test.YtdjfhmghebommaaGreatDoorDYs
import Derived.Test.YtdjfhmghebommaaGreatDoorDVb
namespace Go.Proofs.YtdjfhmghebommaaGreatDoor.Ab
open Go.RowKit
set_option linter.all false
set_option maxRecDepth 100000
set_option maxHeartbeats 2000000
theorem xk117:FOk Tryz.prog T 117 (spTB okTxt):=by
 refine fok (env:=envL []) (N:=29) tabT af mixed Tryz.func117 rfl Tryz.call117 Tryz.ntmps117 ?_
 rintro args ⟨s,rfl⟩ hwf
 have hl:s.size≤maxLen:=arg0 hwf (jb6 _)
 refine ⟨by simp,?_⟩
 clear hwf
 rw [Tryz.results117]
 repeat' first
  | refine And.intro ?_ ?_
  | (intro h;simp only [reduceCtorEq] at h;done)
  | (intro h;rw [h])
  | intro h
 all_goals first
  | (show aa _=true;kernel_rfl)|(show am _ _=true;kernel_rfl)|exact True.intro|exact Or.inr rfl|exact Or.inl rfl
  | skip
 refine ap (Q:=_) [0,3] [] (fun n st=>∃ i:Nat,st=([sArg s,.val false [.i .i64 (i:Int)]],[])∧(∀ j,j < i→bf (bAt s j)=true)∧i≤s.size∧n=s.size - i) ?_ ?_
 · exact ⟨rfl,s.size,0,rfl,nolt _,jbP _,rfl⟩
 rintro n st ⟨i,rfl,hI,hle,rfl⟩
 repeat' first
  | refine And.intro ?_ ?_
  | (intro h;simp only [reduceCtorEq] at h;done)
  | (intro h;rw [h])
  | intro h
 all_goals first
  | (show aa _=true;kernel_rfl)|(show am _ _=true;kernel_rfl)|exact True.intro|exact Or.inr rfl|exact Or.inl rfl
  | with_reducible exact jb2 _
  | (have hi:i < s.size:=ltN (by with_reducible assumption)
     first
      | with_reducible exact jbO (by with_reducible assumption)
      | (show (Int.toNat (i:Int)) < _;rw [jca];exact hi)
      | (show (i:Int) < _;omega)
        | exact ⟨_,_,_,rfl⟩
        | (unfold okTxt;refine jc (i:=i) (P:=fun j=>bf (bAt s j)) hi ?_;first|(show _=_;simp_all only [bf,jch,jck,jcJ,jcC,jcG,jcI,jcB,jcD,jcy,jcA,jcn,jcs,jcL];done)|skip;done)
        | (unfold okTxt;exact jd (P:=fun j=>bf (bAt s j)) hI hi rfl)
        | (refine ⟨s.size - (i+1),by omega,i+1,?_,aF hI (P:=fun j=>bf (bAt s j)) ?_,by omega,rfl⟩
           · exact congrArg (fun z:Int=>(([sArg s,.val false [.i .i64 z]],[]):Snap)) (wrapN hi hl)
           · first|(show _=_;simp_all only [bf,jch,jck,jcJ,jcC,jcG,jcI,jcB,jcD,jcy,jcA,jcn,jcs,jcL];done)|skip;done))
  | (have hi:¬ i < s.size:=nltN (by with_reducible assumption)
     first
      | exact ⟨_,_,_,rfl⟩
      | (unfold okTxt;refine jc (i:=i) (P:=fun j=>bf (bAt s j)) hi ?_;first|(show _=_;simp_all only [bf,jch,jck,jcJ,jcC,jcG,jcI,jcB,jcD,jcy,jcA,jcn,jcs,jcL];done)|skip;done)
      | (unfold okTxt;exact jd (P:=fun j=>bf (bAt s j)) hI hi rfl)
      | (refine ⟨s.size - (i+1),by omega,i+1,?_,aF hI (P:=fun j=>bf (bAt s j)) ?_,by omega,rfl⟩
         · exact congrArg (fun z:Int=>(([sArg s,.val false [.i .i64 z]],[]):Snap)) (wrapN hi hl)
         · first|(show _=_;simp_all only [bf,jch,jck,jcJ,jcC,jcG,jcI,jcB,jcD,jcy,jcA,jcn,jcs,jcL];done)|skip;done))
  | (show aT _ _;exact rfl)
  | exact absurd (show (!false)=false by with_reducible assumption) (by decide)
  | exact absurd (show (!true)=true by with_reducible assumption) (by decide)
  | skip
theorem xk105:FOk Tryz.prog T 105 (spTB okTxt):=by
 refine fok (env:=envL []) (N:=29) tabT af mixed Tryz.func105 rfl Tryz.call105 Tryz.ntmps105 ?_
 rintro args ⟨s,rfl⟩ hwf
 have hl:s.size≤maxLen:=arg0 hwf (jb6 _)
 refine ⟨by simp,?_⟩
 clear hwf
 rw [Tryz.results105]
 repeat' first
  | refine And.intro ?_ ?_
  | (intro h;simp only [reduceCtorEq] at h;done)
  | (intro h;rw [h])
  | intro h
 all_goals first
  | (show aa _=true;kernel_rfl)|(show am _ _=true;kernel_rfl)|exact True.intro|exact Or.inr rfl|exact Or.inl rfl
  | skip
 refine ap (Q:=_) [0,3] [] (fun n st=>∃ i:Nat,st=([sArg s,.val false [.i .i64 (i:Int)]],[])∧(∀ j,j < i→bf (bAt s j)=true)∧i≤s.size∧n=s.size - i) ?_ ?_
 · exact ⟨rfl,s.size,0,rfl,nolt _,jbP _,rfl⟩
 rintro n st ⟨i,rfl,hI,hle,rfl⟩
 repeat' first
  | refine And.intro ?_ ?_
  | (intro h;simp only [reduceCtorEq] at h;done)
  | (intro h;rw [h])
  | intro h
 all_goals first
  | (show aa _=true;kernel_rfl)|(show am _ _=true;kernel_rfl)|exact True.intro|exact Or.inr rfl|exact Or.inl rfl
  | with_reducible exact jb2 _
  | (have hi:i < s.size:=ltN (by with_reducible assumption)
     first
      | with_reducible exact jbO (by with_reducible assumption)
      | (show (Int.toNat (i:Int)) < _;rw [jca];exact hi)
      | (show (i:Int) < _;omega)
        | exact ⟨_,_,_,rfl⟩
        | (unfold okTxt;refine jc (i:=i) (P:=fun j=>bf (bAt s j)) hi ?_;first|(show _=_;simp_all only [bf,jch,jck,jcJ,jcC,jcG,jcI,jcB,jcD,jcy,jcA,jcn,jcs,jcL];done)|skip;done)
        | (unfold okTxt;exact jd (P:=fun j=>bf (bAt s j)) hI hi rfl)
        | (refine ⟨s.size - (i+1),by omega,i+1,?_,aF hI (P:=fun j=>bf (bAt s j)) ?_,by omega,rfl⟩
           · exact congrArg (fun z:Int=>(([sArg s,.val false [.i .i64 z]],[]):Snap)) (wrapN hi hl)
           · first|(show _=_;simp_all only [bf,jch,jck,jcJ,jcC,jcG,jcI,jcB,jcD,jcy,jcA,jcn,jcs,jcL];done)|skip;done))
  | (have hi:¬ i < s.size:=nltN (by with_reducible assumption)
     first
      | exact ⟨_,_,_,rfl⟩
      | (unfold okTxt;refine jc (i:=i) (P:=fun j=>bf (bAt s j)) hi ?_;first|(show _=_;simp_all only [bf,jch,jck,jcJ,jcC,jcG,jcI,jcB,jcD,jcy,jcA,jcn,jcs,jcL];done)|skip;done)
      | (unfold okTxt;exact jd (P:=fun j=>bf (bAt s j)) hI hi rfl)
      | (refine ⟨s.size - (i+1),by omega,i+1,?_,aF hI (P:=fun j=>bf (bAt s j)) ?_,by omega,rfl⟩
         · exact congrArg (fun z:Int=>(([sArg s,.val false [.i .i64 z]],[]):Snap)) (wrapN hi hl)
         · first|(show _=_;simp_all only [bf,jch,jck,jcJ,jcC,jcG,jcI,jcB,jcD,jcy,jcA,jcn,jcs,jcL];done)|skip;done))
  | (show aT _ _;exact rfl)
  | exact absurd (show (!false)=false by with_reducible assumption) (by decide)
  | exact absurd (show (!true)=true by with_reducible assumption) (by decide)
  | skip
theorem xk189:FOk Tryz.prog T 189 (spTB gQ):=by
 refine fok (env:=envL []) (N:=45) tabT af mixed Tryz.func189 rfl Tryz.call189 Tryz.ntmps189 ?_
 rintro args ⟨s,rfl⟩ hwf
 have hl:s.size≤maxLen:=arg0 hwf (jb6 _)
 refine ⟨by simp,?_⟩
 clear hwf
 rw [Tryz.results189]
 repeat' first
  | refine And.intro ?_ ?_
  | (intro h;simp only [reduceCtorEq] at h;done)
  | (intro h;rw [h])
  | intro h
 all_goals first
  | (show aa _=true;kernel_rfl)|(show am _ _=true;kernel_rfl)|exact True.intro|exact Or.inr rfl|exact Or.inl rfl
  | skip
 refine ap (Q:=_) [0,3] [] (fun n st=>∃ i:Nat,st=([sArg s,.val false [.i .i64 (i:Int)]],[])∧(∀ j,j < i→cg s j=true)∧i≤s.size∧n=s.size - i) ?_ ?_
 · exact ⟨rfl,s.size,0,rfl,nolt _,jbP _,rfl⟩
 rintro n st ⟨i,rfl,hI,hle,rfl⟩
 repeat' first
  | refine And.intro ?_ ?_
  | (intro h;simp only [reduceCtorEq] at h;done)
  | (intro h;rw [h])
  | intro h
 all_goals first
  | (show aa _=true;kernel_rfl)|(show am _ _=true;kernel_rfl)|exact True.intro|exact Or.inr rfl|exact Or.inl rfl
  | with_reducible exact jb2 _
  | (have hi:i < s.size:=ltN (by with_reducible assumption)
     first
      | with_reducible exact jbO (by with_reducible assumption)
      | (show (Int.toNat (i:Int)) < _;rw [jca];exact hi)
      | (show (i:Int) < _;omega)
        | exact ⟨_,_,_,rfl⟩
        | (unfold gQ;refine jc (i:=i) (P:=fun j=>cg s j) hi ?_;first|(show _=_;simp_all only [cg,letB,digB,jch,jck,jcJ,jcC,jcG,jcI,jcB,jcD,jcy,jcA,jcn,jcs,jcL];done)|skip;done)
        | (unfold gQ;exact jd (P:=fun j=>cg s j) hI hi rfl)
        | (refine ⟨s.size - (i+1),by omega,i+1,?_,aF hI (P:=fun j=>cg s j) ?_,by omega,rfl⟩
           · exact congrArg (fun z:Int=>(([sArg s,.val false [.i .i64 z]],[]):Snap)) (wrapN hi hl)
           · first|(show _=_;simp_all only [cg,letB,digB,jch,jck,jcJ,jcC,jcG,jcI,jcB,jcD,jcy,jcA,jcn,jcs,jcL];done)|skip;done))
  | (have hi:¬ i < s.size:=nltN (by with_reducible assumption)
     first
      | exact ⟨_,_,_,rfl⟩
      | (unfold gQ;refine jc (i:=i) (P:=fun j=>cg s j) hi ?_;first|(show _=_;simp_all only [cg,letB,digB,jch,jck,jcJ,jcC,jcG,jcI,jcB,jcD,jcy,jcA,jcn,jcs,jcL];done)|skip;done)
      | (unfold gQ;exact jd (P:=fun j=>cg s j) hI hi rfl)
      | (refine ⟨s.size - (i+1),by omega,i+1,?_,aF hI (P:=fun j=>cg s j) ?_,by omega,rfl⟩
         · exact congrArg (fun z:Int=>(([sArg s,.val false [.i .i64 z]],[]):Snap)) (wrapN hi hl)
         · first|(show _=_;simp_all only [cg,letB,digB,jch,jck,jcJ,jcC,jcG,jcI,jcB,jcD,jcy,jcA,jcn,jcs,jcL];done)|skip;done))
  | (show aT _ _;exact rfl)
  | exact absurd (show (!false)=false by with_reducible assumption) (by decide)
  | exact absurd (show (!true)=true by with_reducible assumption) (by decide)
  | skip
theorem xk184:FOk Tryz.prog T 184 (spTB gR):=by
 refine fok (env:=envL [(103,spIn)]) (N:=42) tabT (ac ok103 af) mixed Tryz.func184 rfl Tryz.call184 Tryz.ntmps184 ?_
 rintro args ⟨s,rfl⟩ hwf
 have hl:s.size≤maxLen:=arg0 hwf (jb6 _)
 refine ⟨by simp,?_⟩
 clear hwf
 rw [Tryz.results184]
 repeat' first
  | refine And.intro ?_ ?_
  | (intro h;simp only [reduceCtorEq] at h;done)
  | (intro h;rw [h])
  | intro h
 all_goals first
  | (show aa _=true;kernel_rfl)|(show am _ _=true;kernel_rfl)|exact True.intro|exact Or.inr rfl|exact Or.inl rfl
  | skip
 refine ap (Q:=_) [0,3] [] (fun n st=>∃ i:Nat,st=([sArg s,.val false [.i .i64 (i:Int)]],[])∧(∀ j,j < i→cg s j=true)∧i≤s.size∧n=s.size - i) ?_ ?_
 · exact ⟨rfl,s.size,0,rfl,nolt _,jbP _,rfl⟩
 rintro n st ⟨i,rfl,hI,hle,rfl⟩
 repeat' first
  | refine And.intro ?_ ?_
  | (intro h;simp only [reduceCtorEq] at h;done)
  | (intro h;rw [h])
  | intro h
 all_goals first
  | (show aa _=true;kernel_rfl)|(show am _ _=true;kernel_rfl)|exact True.intro|exact Or.inr rfl|exact Or.inl rfl
  | with_reducible exact jb2 _
  | (have hi:i < s.size:=ltN (by with_reducible assumption)
     first
      | with_reducible exact jbO (by with_reducible assumption)
      | (show (Int.toNat (i:Int)) < _;rw [jca];exact hi)
      | (show (i:Int) < _;omega)
        | exact ⟨_,_,_,rfl⟩
        | (unfold gR;refine jc (i:=i) (P:=fun j=>cg s j) hi ?_;first|(show _=_;simp_all only [cg,letB,digB,jch,jck,jcJ,jcC,jcG,jcI,jcB,jcD,jcy,jcA,jcn,jcs,jcL];done)|(show _=_;simp_all only [cg,letB,digB,lt48,gt57,jch,jck,jcJ,jcC,jcG,jcI,jcB,jcD,jcy,jcA,jcn,jcs,jcL];done))
        | (unfold gR;exact jd (P:=fun j=>cg s j) hI hi rfl)
        | (refine ⟨s.size - (i+1),by omega,i+1,?_,aF hI (P:=fun j=>cg s j) ?_,by omega,rfl⟩
           · exact congrArg (fun z:Int=>(([sArg s,.val false [.i .i64 z]],[]):Snap)) (wrapN hi hl)
           · first|(show _=_;simp_all only [cg,letB,digB,jch,jck,jcJ,jcC,jcG,jcI,jcB,jcD,jcy,jcA,jcn,jcs,jcL];done)|(show _=_;simp_all only [cg,letB,digB,lt48,gt57,jch,jck,jcJ,jcC,jcG,jcI,jcB,jcD,jcy,jcA,jcn,jcs,jcL];done)))
  | (have hi:¬ i < s.size:=nltN (by with_reducible assumption)
     first
      | exact ⟨_,_,_,rfl⟩
      | (unfold gR;refine jc (i:=i) (P:=fun j=>cg s j) hi ?_;first|(show _=_;simp_all only [cg,letB,digB,jch,jck,jcJ,jcC,jcG,jcI,jcB,jcD,jcy,jcA,jcn,jcs,jcL];done)|(show _=_;simp_all only [cg,letB,digB,lt48,gt57,jch,jck,jcJ,jcC,jcG,jcI,jcB,jcD,jcy,jcA,jcn,jcs,jcL];done))
      | (unfold gR;exact jd (P:=fun j=>cg s j) hI hi rfl)
      | (refine ⟨s.size - (i+1),by omega,i+1,?_,aF hI (P:=fun j=>cg s j) ?_,by omega,rfl⟩
         · exact congrArg (fun z:Int=>(([sArg s,.val false [.i .i64 z]],[]):Snap)) (wrapN hi hl)
         · first|(show _=_;simp_all only [cg,letB,digB,jch,jck,jcJ,jcC,jcG,jcI,jcB,jcD,jcy,jcA,jcn,jcs,jcL];done)|(show _=_;simp_all only [cg,letB,digB,lt48,gt57,jch,jck,jcJ,jcC,jcG,jcI,jcB,jcD,jcy,jcA,jcn,jcs,jcL];done)))
  | (show aT _ _;exact rfl)
  | exact absurd (show (!false)=false by with_reducible assumption) (by decide)
  | exact absurd (show (!true)=true by with_reducible assumption) (by decide)
  | skip
theorem xk201:FOk Tryz.prog T 201 (rO resvB):=by
 refine fok (env:=envL []) (N:=2) tabT af mixed Tryz.func201 rfl Tryz.call201 Tryz.ntmps201 ?_
 rintro args rfl hwf
 refine ⟨by simp,?_⟩
 clear hwf
 rw [Tryz.results201]
 repeat' first
  | refine And.intro ?_ ?_
  | (intro h;simp only [reduceCtorEq] at h;done)
  | (intro h;rw [h])
  | intro h
 all_goals first
  | (show aa _=true;kernel_rfl)|(show am _ _=true;kernel_rfl)|exact True.intro|exact Or.inr rfl|exact Or.inl rfl
  | exact rfl
  | omega
  | decide
  | skip
theorem yV:FOk Tryz.prog T 191 (xH hasT):=by
 refine fok (env:=envL []) (N:=18) tabT af mixed Tryz.func191 rfl Tryz.call191 Tryz.ntmps191 ?_
 rintro args ⟨a,s,rfl⟩ hwf
 have hl:a.length≤maxLen:=(show WfD T (.l 9) (.l a) from arg0 hwf (jb6 _)).len
 refine ⟨by simp,?_⟩
 clear hwf
 rw [Tryz.results191]
 repeat' first
  | refine And.intro ?_ ?_
  | (intro h;simp only [reduceCtorEq] at h;done)
  | (intro h;rw [h])
  | intro h
 all_goals first
  | (show aa _=true;kernel_rfl)|(show am _ _=true;kernel_rfl)|exact True.intro|exact Or.inr rfl|exact Or.inl rfl
  | skip
 refine ap (Q:=_) [0,1,5] [] (fun n st=>∃ i:Nat,st=([argS 9 a,sArg s,.val false [.i .i64 (i:Int)]],[])∧(∀ j,j < i→(!isAt a s j)=true)∧i≤a.length∧n=a.length - i) ?_ ?_
 · exact ⟨rfl,a.length,0,rfl,nolt _,jbP _,rfl⟩
 rintro n st ⟨i,rfl,hI,hle,rfl⟩
 repeat' first
  | refine And.intro ?_ ?_
  | (intro h;simp only [reduceCtorEq] at h;done)
  | (intro h;rw [h])
  | intro h
 all_goals first
  | (show aa _=true;kernel_rfl)|(show am _ _=true;kernel_rfl)|exact True.intro|exact Or.inr rfl|exact Or.inl rfl
  | with_reducible exact jb2 _
  | (have hi:i < a.length:=ltN (by with_reducible assumption)
     first
      | with_reducible exact jbO (by with_reducible assumption)
      | (show (Int.toNat (i:Int)) < _;rw [jca];exact hi)
      | (show (i:Int) < _;omega)
        | exact jal (P:=fun j=>!isAt a s j) hi (notT (by with_reducible assumption))
        | exact jam (P:=fun j=>!isAt a s j) hI hi
        | (refine ⟨a.length - (i+1),by omega,i+1,?_,aF hI (P:=fun j=>(!isAt a s j)) ?_,by omega,rfl⟩
           · exact congrArg (fun z:Int=>(([argS 9 a,sArg s,.val false [.i .i64 z]],[]):Snap)) (wrapN hi hl)
           · exact notF (by with_reducible assumption)))
  | (have hi:¬ i < a.length:=nltN (by with_reducible assumption)
     first
      | exact jal (P:=fun j=>!isAt a s j) hi (notT (by with_reducible assumption))
      | exact jam (P:=fun j=>!isAt a s j) hI hi
      | (refine ⟨a.length - (i+1),by omega,i+1,?_,aF hI (P:=fun j=>(!isAt a s j)) ?_,by omega,rfl⟩
         · exact congrArg (fun z:Int=>(([argS 9 a,sArg s,.val false [.i .i64 z]],[]):Snap)) (wrapN hi hl)
         · exact notF (by with_reducible assumption)))
  | (show aT _ _;exact rfl)
  | exact absurd (show (!false)=false by with_reducible assumption) (by decide)
  | exact absurd (show (!true)=true by with_reducible assumption) (by decide)
  | skip
theorem xk115:FOk Tryz.prog T 115 (rT idxT):=by
 refine fok (env:=envL []) (N:=19) tabT af mixed Tryz.func115 rfl Tryz.call115 Tryz.ntmps115 ?_
 rintro args ⟨a,s,rfl⟩ hwf
 have hl:a.length≤maxLen:=(show WfD T (.l 9) (.l a) from arg0 hwf (jb6 _)).len
 refine ⟨by simp,?_⟩
 clear hwf
 rw [Tryz.results115]
 repeat' first
  | refine And.intro ?_ ?_
  | (intro h;simp only [reduceCtorEq] at h;done)
  | (intro h;rw [h])
  | intro h
 all_goals first
  | (show aa _=true;kernel_rfl)|(show am _ _=true;kernel_rfl)|exact True.intro|exact Or.inr rfl|exact Or.inl rfl
  | skip
 refine ap (Q:=_) [0,1,5] [] (fun n st=>∃ i:Nat,st=([argS 9 a,sArg s,.val false [.i .i64 (i:Int)]],[])∧(∀ j,j < i→(!isAt a s j)=true)∧i≤a.length∧n=a.length - i) ?_ ?_
 · exact ⟨rfl,a.length,0,rfl,nolt _,jbP _,rfl⟩
 rintro n st ⟨i,rfl,hI,hle,rfl⟩
 repeat' first
  | refine And.intro ?_ ?_
  | (intro h;simp only [reduceCtorEq] at h;done)
  | (intro h;rw [h])
  | intro h
 all_goals first
  | (show aa _=true;kernel_rfl)|(show am _ _=true;kernel_rfl)|exact True.intro|exact Or.inr rfl|exact Or.inl rfl
  | with_reducible exact jb2 _
  | (have hi:i < a.length:=ltN (by with_reducible assumption)
     first
      | with_reducible exact jbO (by with_reducible assumption)
      | (show (Int.toNat (i:Int)) < _;rw [jca];exact hi)
      | (show (i:Int) < _;omega)
        | exact uW (P:=isAt a s) hi (by with_reducible assumption) hI
        | exact uV (P:=isAt a s) hI hi
        | (refine ⟨a.length - (i+1),by omega,i+1,?_,aF hI (P:=fun j=>(!isAt a s j)) ?_,by omega,rfl⟩
           · exact congrArg (fun z:Int=>(([argS 9 a,sArg s,.val false [.i .i64 z]],[]):Snap)) (wrapN hi hl)
           · exact notF (by with_reducible assumption)))
  | (have hi:¬ i < a.length:=nltN (by with_reducible assumption)
     first
      | exact uW (P:=isAt a s) hi (by with_reducible assumption) hI
      | exact uV (P:=isAt a s) hI hi
      | (refine ⟨a.length - (i+1),by omega,i+1,?_,aF hI (P:=fun j=>(!isAt a s j)) ?_,by omega,rfl⟩
         · exact congrArg (fun z:Int=>(([argS 9 a,sArg s,.val false [.i .i64 z]],[]):Snap)) (wrapN hi hl)
         · exact notF (by with_reducible assumption)))
  | (show aT _ _;exact rfl)
  | exact absurd (show (!false)=false by with_reducible assumption) (by decide)
  | exact absurd (show (!true)=true by with_reducible assumption) (by decide)
  | skip
theorem yX:FOk Tryz.prog T 133 (rT idxT):=by
 refine fok (env:=envL []) (N:=19) tabT af mixed Tryz.func133 rfl Tryz.call133 Tryz.ntmps133 ?_
 rintro args ⟨a,s,rfl⟩ hwf
 have hl:a.length≤maxLen:=(show WfD T (.l 9) (.l a) from arg0 hwf (jb6 _)).len
 refine ⟨by simp,?_⟩
 clear hwf
 rw [Tryz.results133]
 repeat' first
  | refine And.intro ?_ ?_
  | (intro h;simp only [reduceCtorEq] at h;done)
  | (intro h;rw [h])
  | intro h
 all_goals first
  | (show aa _=true;kernel_rfl)|(show am _ _=true;kernel_rfl)|exact True.intro|exact Or.inr rfl|exact Or.inl rfl
  | skip
 refine ap (Q:=_) [0,1,7,8,9] [] (fun n st=>∃ i:Nat,st=([argS 9 a,sArg s,argS 9 a,.val false [.i .i64 a.length],.val false [.i .i64 (i:Int)]],[])∧(∀ j,j < i→(!isAt a s j)=true)∧i≤a.length∧n=a.length - i) ?_ ?_
 · exact ⟨rfl,a.length,0,rfl,nolt _,jbP _,rfl⟩
 rintro n st ⟨i,rfl,hI,hle,rfl⟩
 repeat' first
  | refine And.intro ?_ ?_
  | (intro h;simp only [reduceCtorEq] at h;done)
  | (intro h;rw [h])
  | intro h
 all_goals first
  | (show aa _=true;kernel_rfl)|(show am _ _=true;kernel_rfl)|exact True.intro|exact Or.inr rfl|exact Or.inl rfl
  | with_reducible exact jb2 _
  | (have hi:i < a.length:=ltN (by with_reducible assumption)
     first
      | with_reducible exact jbO (by with_reducible assumption)
      | (show (Int.toNat (i:Int)) < _;rw [jca];exact hi)
      | (show (i:Int) < _;omega)
        | exact uW (P:=isAt a s) hi (by with_reducible assumption) hI
        | exact uV (P:=isAt a s) hI hi
        | (refine ⟨a.length - (i+1),by omega,i+1,?_,aF hI (P:=fun j=>(!isAt a s j)) ?_,by omega,rfl⟩
           · exact congrArg (fun z:Int=>(([argS 9 a,sArg s,argS 9 a,.val false [.i .i64 a.length],.val false [.i .i64 z]],[]):Snap)) (wrapN hi hl)
           · exact notF (by with_reducible assumption)))
  | (have hi:¬ i < a.length:=nltN (by with_reducible assumption)
     first
      | exact uW (P:=isAt a s) hi (by with_reducible assumption) hI
      | exact uV (P:=isAt a s) hI hi
      | (refine ⟨a.length - (i+1),by omega,i+1,?_,aF hI (P:=fun j=>(!isAt a s j)) ?_,by omega,rfl⟩
         · exact congrArg (fun z:Int=>(([argS 9 a,sArg s,argS 9 a,.val false [.i .i64 a.length],.val false [.i .i64 z]],[]):Snap)) (wrapN hi hl)
         · exact notF (by with_reducible assumption)))
  | (show aT _ _;exact rfl)
  | exact absurd (show (!false)=false by with_reducible assumption) (by decide)
  | exact absurd (show (!true)=true by with_reducible assumption) (by decide)
  | skip
theorem xk190:FOk Tryz.prog T 190 (spTB fb):=by
 refine fok (env:=envL [(201,(rO resvB)),(191,(xH hasT))]) (N:=6) tabT (ac xk201 (ac yV af)) mixed Tryz.func190 rfl Tryz.call190 Tryz.ntmps190 ?_
 rintro args ⟨s,rfl⟩ hwf
 refine ⟨by simp,?_⟩
 clear hwf
 rw [Tryz.results190]
 repeat' first
  | refine And.intro ?_ ?_
  | (intro h;simp only [reduceCtorEq] at h;done)
  | (intro h;rw [h])
  | intro h
 all_goals first
  | (show aa _=true;kernel_rfl)|(show am _ _=true;kernel_rfl)|exact True.intro|exact Or.inr rfl|exact Or.inl rfl
  | exact rfl
  | exact ⟨_,_,rfl⟩
  | exact resB (tN s)
  | skip
theorem xk199:FOk Tryz.prog T 199 v8:=by
 refine fok (env:=envL []) (N:=26) tabT af mixed Tryz.func199 rfl Tryz.call199 Tryz.ntmps199 ?_
 rintro args ⟨s,rfl⟩ hwf
 refine ⟨by simp,?_⟩
 clear hwf
 rw [Tryz.results199]
 repeat' first
  | refine And.intro ?_ ?_
  | (intro h;simp only [reduceCtorEq] at h;done)
  | (intro h;rw [h])
  | intro h
 all_goals first
  | (show aa _=true;kernel_rfl)|(show am _ _=true;kernel_rfl)|exact True.intro|exact Or.inr rfl|exact Or.inl rfl
  | exact rfl
  | exact ⟨_,rfl⟩
  | (refine resI ?_;simp only [argC, *,if_true,jcG,jcI,jcB,jcD];done)
  | (refine resI ?_;simp only [argC, *,if_true,jcG,jcI,jcB,jcD];rfl)
  | skip
theorem xk185:FOk Tryz.prog T 185 (spTB fb):=by
 refine fok (env:=envL [(199,v8)]) (N:=15) tabT (ac xk199 af) mixed Tryz.func185 rfl Tryz.call185 Tryz.ntmps185 ?_
 rintro args ⟨s,rfl⟩ hwf
 refine ⟨by simp,?_⟩
 clear hwf
 rw [Tryz.results185]
 repeat' first
  | refine And.intro ?_ ?_
  | (intro h;simp only [reduceCtorEq] at h;done)
  | (intro h;rw [h])
  | intro h
 all_goals first
  | (show aa _=true;kernel_rfl)|(show am _ _=true;kernel_rfl)|exact True.intro|exact Or.inr rfl|exact Or.inl rfl
  | exact rfl
  | exact ⟨_,rfl⟩
  | (refine resB ((?_:_=qI s).trans (pP s));simp only [qI, *,jcG,jcI,jcB,jcD];done)
  | (refine resB ((?_:_=qI s).trans (pP s));simp only [qI, *,jcG,jcI,jcB,jcD];rfl)
  | skip
theorem xk173:FOk Tryz.prog T 173 (spTB cc):=by
 refine fok (env:=envL [(189,(spTB gQ)),(190,(spTB fb))]) (N:=15) tabT (ac xk189 (ac xk190 af)) mixed Tryz.func173 rfl Tryz.call173 Tryz.ntmps173 ?_
 rintro args ⟨s,rfl⟩ hwf
 refine ⟨by simp,?_⟩
 clear hwf
 rw [Tryz.results173]
 repeat' first
  | refine And.intro ?_ ?_
  | (intro h;simp only [reduceCtorEq] at h;done)
  | (intro h;rw [h])
  | intro h
 all_goals first
  | (show aa _=true;kernel_rfl)|(show am _ _=true;kernel_rfl)|exact True.intro|exact Or.inr rfl|exact Or.inl rfl
  | exact rfl
  | exact ⟨_,rfl⟩
  | (refine resB ?_;simp_all only [cc,jch,jck,jcJ,jcC,jcG,jcI,jcB,jcD,jcy,jcA,jcn,jcs,jcL];done)
  | skip
theorem xk166:FOk Tryz.prog T 166 (spTB cc):=by
 refine fok (env:=envL [(184,(spTB gR)),(185,(spTB fb))]) (N:=10) tabT (ac xk184 (ac xk185 af)) mixed Tryz.func166 rfl Tryz.call166 Tryz.ntmps166 ?_
 rintro args ⟨s,rfl⟩ hwf
 refine ⟨by simp,?_⟩
 clear hwf
 rw [Tryz.results166]
 repeat' first
  | refine And.intro ?_ ?_
  | (intro h;simp only [reduceCtorEq] at h;done)
  | (intro h;rw [h])
  | intro h
 all_goals first
  | (show aa _=true;kernel_rfl)|(show am _ _=true;kernel_rfl)|exact True.intro|exact Or.inr rfl|exact Or.inl rfl
  | exact rfl
  | exact ⟨_,rfl⟩
  | (refine resB ((?_:_=(gR s && !fb s)).trans (ti s));simp_all only [jch,jck,jcJ,jcC,jcG,jcI,jcB,jcD,jcy,jcA,jcn,jcs,jcL];done)
  | skip
theorem xk174:FOk Tryz.prog T 174 (spSB 9 kU):=by
 refine fok (env:=envL [(191,(xH hasT))]) (N:=18) tabT (ac yV af) mixed Tryz.func174 rfl Tryz.call174 Tryz.ntmps174 ?_
 rintro args ⟨a,rfl⟩ hwf
 have hl:a.length≤maxLen:=(show WfD T (.l 9) (.l a) from arg0 hwf (jb6 _)).len
 refine ⟨by simp,?_⟩
 clear hwf
 rw [Tryz.results174]
 repeat' first
  | refine And.intro ?_ ?_
  | (intro h;simp only [reduceCtorEq] at h;done)
  | (intro h;rw [h])
  | intro h
 all_goals first
  | (show aa _=true;kernel_rfl)|(show am _ _=true;kernel_rfl)|exact True.intro|exact Or.inr rfl|exact Or.inl rfl
  | skip
 refine ap (Q:=_) [0,3] [] (fun n st=>∃ i:Nat,st=([argS 9 a,.val false [.i .i64 (i:Int)]],[])∧(∀ j,j < i→(!hasT (a.take j) (tAt a j))=true)∧i≤a.length∧n=a.length - i) ?_ ?_
 · exact ⟨rfl,a.length,0,rfl,nolt _,jbP _,rfl⟩
 rintro n st ⟨i,rfl,hI,hle,rfl⟩
 repeat' first
  | refine And.intro ?_ ?_
  | (intro h;simp only [reduceCtorEq] at h;done)
  | (intro h;rw [h])
  | intro h
 all_goals first
  | (show aa _=true;kernel_rfl)|(show am _ _=true;kernel_rfl)|exact True.intro|exact Or.inr rfl|exact Or.inl rfl
  | with_reducible exact jb2 _
  | (have hi:i < a.length:=ltN (by with_reducible assumption)
     first
      | with_reducible exact jbO (by with_reducible assumption)
      | (show (Int.toNat (i:Int)) < _;rw [jca];exact hi)
      | (show (i:Int) < _;omega)
        | exact ⟨_,_,rfl⟩
        | (show (i:Int)≤_;omega)
        | (show i≤_;omega)
        | exact jcz _
        | exact fF (P:=fun j=>!hasT (a.take j) (tAt a j)) hi (notT (b:=hasT (a.take i) (tAt a i)) (show hasT (List.drop (Int.toNat 0) (List.take (Int.toNat (i:Int)) a)) (tAt a i)=true by with_reducible assumption))
        | (unfold kU;exact lk hI hi)
        | (refine ⟨a.length - (i+1),by omega,i+1,?_,aF hI (P:=fun j=>(!hasT (a.take j) (tAt a j))) ?_,by omega,rfl⟩
           · exact congrArg (fun z:Int=>(([argS 9 a,.val false [.i .i64 z]],[]):Snap)) (wrapN hi hl)
           · exact notF (b:=hasT (a.take i) (tAt a i)) (show hasT (List.drop (Int.toNat 0) (List.take (Int.toNat (i:Int)) a)) (tAt a i)=false by with_reducible assumption)))
  | (have hi:¬ i < a.length:=nltN (by with_reducible assumption)
     first
      | exact ⟨_,_,rfl⟩
      | (show (i:Int)≤_;omega)
      | (show i≤_;omega)
      | exact jcz _
      | exact fF (P:=fun j=>!hasT (a.take j) (tAt a j)) hi (notT (b:=hasT (a.take i) (tAt a i)) (show hasT (List.drop (Int.toNat 0) (List.take (Int.toNat (i:Int)) a)) (tAt a i)=true by with_reducible assumption))
      | (unfold kU;exact lk hI hi)
      | (refine ⟨a.length - (i+1),by omega,i+1,?_,aF hI (P:=fun j=>(!hasT (a.take j) (tAt a j))) ?_,by omega,rfl⟩
         · exact congrArg (fun z:Int=>(([argS 9 a,.val false [.i .i64 z]],[]):Snap)) (wrapN hi hl)
         · exact notF (b:=hasT (a.take i) (tAt a i)) (show hasT (List.drop (Int.toNat 0) (List.take (Int.toNat (i:Int)) a)) (tAt a i)=false by with_reducible assumption)))
  | (show aT _ _;exact rfl)
  | exact absurd (show (!false)=false by with_reducible assumption) (by decide)
  | exact absurd (show (!true)=true by with_reducible assumption) (by decide)
  | skip
theorem xk167:FOk Tryz.prog T 167 (spSB 9 kU):=by
 refine fok (env:=envL [(133,(rT idxT))]) (N:=18) tabT (ac yX af) mixed Tryz.func167 rfl Tryz.call167 Tryz.ntmps167 ?_
 rintro args ⟨a,rfl⟩ hwf
 have hl:a.length≤maxLen:=(show WfD T (.l 9) (.l a) from arg0 hwf (jb6 _)).len
 refine ⟨by simp,?_⟩
 clear hwf
 rw [Tryz.results167]
 repeat' first
  | refine And.intro ?_ ?_
  | (intro h;simp only [reduceCtorEq] at h;done)
  | (intro h;rw [h])
  | intro h
 all_goals first
  | (show aa _=true;kernel_rfl)|(show am _ _=true;kernel_rfl)|exact True.intro|exact Or.inr rfl|exact Or.inl rfl
  | skip
 refine ap (Q:=_) [0,5,6,7] [] (fun n st=>∃ i:Nat,st=([argS 9 a,argS 9 a,.val false [.i .i64 a.length],.val false [.i .i64 (i:Int)]],[])∧(∀ j,j < i→(!hasT (a.take j) (tAt a j))=true)∧i≤a.length∧n=a.length - i) ?_ ?_
 · exact ⟨rfl,a.length,0,rfl,nolt _,jbP _,rfl⟩
 rintro n st ⟨i,rfl,hI,hle,rfl⟩
 repeat' first
  | refine And.intro ?_ ?_
  | (intro h;simp only [reduceCtorEq] at h;done)
  | (intro h;rw [h])
  | intro h
 all_goals first
  | (show aa _=true;kernel_rfl)|(show am _ _=true;kernel_rfl)|exact True.intro|exact Or.inr rfl|exact Or.inl rfl
  | with_reducible exact jb2 _
  | (have hi:i < a.length:=ltN (by with_reducible assumption)
     first
      | with_reducible exact jbO (by with_reducible assumption)
      | (show (Int.toNat (i:Int)) < _;rw [jca];exact hi)
      | (show (i:Int) < _;omega)
        | exact ⟨_,_,rfl⟩
        | exact fF (P:=fun j=>!hasT (a.take j) (tAt a j)) hi (ud hi (by with_reducible assumption))
        | (unfold kU;exact lk hI hi)
        | (refine ⟨a.length - (i+1),by omega,i+1,?_,aF hI (P:=fun j=>(!hasT (a.take j) (tAt a j))) ?_,by omega,rfl⟩
           · exact congrArg (fun z:Int=>(([argS 9 a,argS 9 a,.val false [.i .i64 a.length],.val false [.i .i64 z]],[]):Snap)) (wrapN hi hl)
           · exact qi hi (by with_reducible assumption)))
  | (have hi:¬ i < a.length:=nltN (by with_reducible assumption)
     first
      | exact ⟨_,_,rfl⟩
      | exact fF (P:=fun j=>!hasT (a.take j) (tAt a j)) hi (ud hi (by with_reducible assumption))
      | (unfold kU;exact lk hI hi)
      | (refine ⟨a.length - (i+1),by omega,i+1,?_,aF hI (P:=fun j=>(!hasT (a.take j) (tAt a j))) ?_,by omega,rfl⟩
         · exact congrArg (fun z:Int=>(([argS 9 a,argS 9 a,.val false [.i .i64 a.length],.val false [.i .i64 z]],[]):Snap)) (wrapN hi hl)
         · exact qi hi (by with_reducible assumption)))
  | (show aT _ _;exact rfl)
  | exact absurd (show (!false)=false by with_reducible assumption) (by decide)
  | exact absurd (show (!true)=true by with_reducible assumption) (by decide)
  | skip
theorem xk152:FOk Tryz.prog T 152 (spSB 9 dA):=by
 refine fok (env:=envL [(173,(spTB cc)),(35,spIn),(174,(spSB 9 kU))]) (N:=23) tabT (ac xk173 (ac ok35 (ac xk174 af))) mixed Tryz.func152 rfl Tryz.call152 Tryz.ntmps152 ?_
 rintro args ⟨a,rfl⟩ hwf
 have hl:a.length≤maxLen:=(show WfD T (.l 9) (.l a) from arg0 hwf (jb6 _)).len
 refine ⟨by simp,?_⟩
 clear hwf
 rw [Tryz.results152]
 repeat' first
  | refine And.intro ?_ ?_
  | (intro h;simp only [reduceCtorEq] at h;done)
  | (intro h;rw [h])
  | intro h
 all_goals first
  | (show aa _=true;kernel_rfl)|(show am _ _=true;kernel_rfl)|exact True.intro|exact Or.inr rfl|exact Or.inl rfl
  | skip
 refine ap (Q:=_) [0,3] [] (fun n st=>∃ i:Nat,st=([argS 9 a,.val false [.i .i64 (i:Int)]],[])∧(∀ j,j < i→cc (tAt a j)=true)∧i≤a.length∧n=a.length - i) ?_ ?_
 · exact ⟨rfl,a.length,0,rfl,nolt _,jbP _,rfl⟩
 rintro n st ⟨i,rfl,hI,hle,rfl⟩
 repeat' first
  | refine And.intro ?_ ?_
  | (intro h;simp only [reduceCtorEq] at h;done)
  | (intro h;rw [h])
  | intro h
 all_goals first
  | (show aa _=true;kernel_rfl)|(show am _ _=true;kernel_rfl)|exact True.intro|exact Or.inr rfl|exact Or.inl rfl
  | with_reducible exact jb2 _
  | (have hi:i < a.length:=ltN (by with_reducible assumption)
     first
      | with_reducible exact jbO (by with_reducible assumption)
      | (show (Int.toNat (i:Int)) < _;rw [jca];exact hi)
      | (show (i:Int) < _;omega)
        | exact ⟨_,rfl⟩
        | exact ⟨_,_,_,rfl⟩
        | exact jc hi (aY (by with_reducible assumption))
        | (refine jd hI hi ?_;simp_all only [jch,jck,jcJ,jcC,jcG,jcI,jcB,jcD,jcy,jcA,jcn,jcs,jcL];done)
        | (refine ⟨a.length - (i+1),by omega,i+1,?_,aF hI (P:=fun j=>cc (tAt a j)) ?_,by omega,rfl⟩
           · exact congrArg (fun z:Int=>(([argS 9 a,.val false [.i .i64 z]],[]):Snap)) (wrapN hi hl)
           · exact aA (by with_reducible assumption)))
  | (have hi:¬ i < a.length:=nltN (by with_reducible assumption)
     first
      | exact ⟨_,rfl⟩
      | exact ⟨_,_,_,rfl⟩
      | exact jc hi (aY (by with_reducible assumption))
      | (refine jd hI hi ?_;simp_all only [jch,jck,jcJ,jcC,jcG,jcI,jcB,jcD,jcy,jcA,jcn,jcs,jcL];done)
      | (refine ⟨a.length - (i+1),by omega,i+1,?_,aF hI (P:=fun j=>cc (tAt a j)) ?_,by omega,rfl⟩
         · exact congrArg (fun z:Int=>(([argS 9 a,.val false [.i .i64 z]],[]):Snap)) (wrapN hi hl)
         · exact aA (by with_reducible assumption)))
  | (show aT _ _;exact rfl)
  | exact absurd (show (!false)=false by with_reducible assumption) (by decide)
  | exact absurd (show (!true)=true by with_reducible assumption) (by decide)
  | skip
theorem xk138:FOk Tryz.prog T 138 (spSB 9 dA):=by
 refine fok (env:=envL [(166,(spTB cc)),(103,spIn),(167,(spSB 9 kU))]) (N:=22) tabT (ac xk166 (ac ok103 (ac xk167 af))) mixed Tryz.func138 rfl Tryz.call138 Tryz.ntmps138 ?_
 rintro args ⟨a,rfl⟩ hwf
 have hl:a.length≤maxLen:=(show WfD T (.l 9) (.l a) from arg0 hwf (jb6 _)).len
 refine ⟨by simp,?_⟩
 clear hwf
 rw [Tryz.results138]
 repeat' first
  | refine And.intro ?_ ?_
  | (intro h;simp only [reduceCtorEq] at h;done)
  | (intro h;rw [h])
  | intro h
 all_goals first
  | (show aa _=true;kernel_rfl)|(show am _ _=true;kernel_rfl)|exact True.intro|exact Or.inr rfl|exact Or.inl rfl
  | skip
 refine ap (Q:=_) [0,5,6,7] [] (fun n st=>∃ i:Nat,st=([argS 9 a,argS 9 a,.val false [.i .i64 a.length],.val false [.i .i64 (i:Int)]],[])∧(∀ j,j < i→cc (tAt a j)=true)∧i≤a.length∧n=a.length - i) ?_ ?_
 · exact ⟨rfl,a.length,0,rfl,nolt _,jbP _,rfl⟩
 rintro n st ⟨i,rfl,hI,hle,rfl⟩
 repeat' first
  | refine And.intro ?_ ?_
  | (intro h;simp only [reduceCtorEq] at h;done)
  | (intro h;rw [h])
  | intro h
 all_goals first
  | (show aa _=true;kernel_rfl)|(show am _ _=true;kernel_rfl)|exact True.intro|exact Or.inr rfl|exact Or.inl rfl
  | with_reducible exact jb2 _
  | (have hi:i < a.length:=ltN (by with_reducible assumption)
     first
      | with_reducible exact jbO (by with_reducible assumption)
      | (show (Int.toNat (i:Int)) < _;rw [jca];exact hi)
      | (show (i:Int) < _;omega)
        | exact ⟨_,rfl⟩
        | exact ⟨_,_,_,rfl⟩
        | exact jc hi (aY (by with_reducible assumption))
        | (refine jd hI hi ?_;simp_all only [jch,jck,jcJ,jcC,jcG,jcI,jcB,jcD,jcy,jcA,jcn,jcs,jcL];done)
        | (refine ⟨a.length - (i+1),by omega,i+1,?_,aF hI (P:=fun j=>cc (tAt a j)) ?_,by omega,rfl⟩
           · exact congrArg (fun z:Int=>(([argS 9 a,argS 9 a,.val false [.i .i64 a.length],.val false [.i .i64 z]],[]):Snap)) (wrapN hi hl)
           · exact aA (by with_reducible assumption)))
  | (have hi:¬ i < a.length:=nltN (by with_reducible assumption)
     first
      | exact ⟨_,rfl⟩
      | exact ⟨_,_,_,rfl⟩
      | exact jc hi (aY (by with_reducible assumption))
      | (refine jd hI hi ?_;simp_all only [jch,jck,jcJ,jcC,jcG,jcI,jcB,jcD,jcy,jcA,jcn,jcs,jcL];done)
      | (refine ⟨a.length - (i+1),by omega,i+1,?_,aF hI (P:=fun j=>cc (tAt a j)) ?_,by omega,rfl⟩
         · exact congrArg (fun z:Int=>(([argS 9 a,argS 9 a,.val false [.i .i64 a.length],.val false [.i .i64 z]],[]):Snap)) (wrapN hi hl)
         · exact aA (by with_reducible assumption)))
  | (show aT _ _;exact rfl)
  | exact absurd (show (!false)=false by with_reducible assumption) (by decide)
  | exact absurd (show (!true)=true by with_reducible assumption) (by decide)
  | skip
end Go.Proofs.YtdjfhmghebommaaGreatDoor.Ab
