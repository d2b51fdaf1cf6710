/- Origins and tables, exactly: printed by a program of this -/
import Derived.Test.YtcllpknipmcolaaGreatDoorCYb
namespace Go.Proofs.YtcllpknipmcolaaGreatDoor.Ab
open Go.RowKit
set_option linter.all false
set_option maxRecDepth 100000
set_option maxHeartbeats 2000000
theorem xk203:FOk Tryz.prog T 203 (uX T CO befO):=by
 refine fok (env:=envL []) (N:=24) tabT ae mixed Tryz.func203 rfl Tryz.call203 Tryz.ntmps203 ?_
 rintro args ⟨a,b,wa,wb,rfl⟩ hwf
 refine ⟨by simp,?_⟩
 clear hwf
 rw [Tryz.results203]
 repeat' first
  | (refine And.intro ?_ ?_)
  | (intro h;simp only [reduceCtorEq] at h;done)
  | (intro h;rw [h])
  | (intro h)
 all_goals first
  | exact True.intro
  | exact Or.inr rfl
  | (refine resB ((?_:_=befO a b));show _=(decide (iAt a 0 < iAt b 0) || (iAt a 0 == iAt b 0 && decide (iAt a 1 < iAt b 1)));simp_all only [jcN,jcQ,jdf,jc8,jdc,jde,jc7,jc9,jc4,jc6,jcT,jcY,jdh];done)
theorem xk88:FOk Tryz.prog T 88 (uX T CO befO):=by
 refine fok (env:=envL []) (N:=24) tabT ae mixed Tryz.func88 rfl Tryz.call88 Tryz.ntmps88 ?_
 rintro args ⟨a,b,wa,wb,rfl⟩ hwf
 refine ⟨by simp,?_⟩
 clear hwf
 rw [Tryz.results88]
 repeat' first
  | (refine And.intro ?_ ?_)
  | (intro h;simp only [reduceCtorEq] at h;done)
  | (intro h;rw [h])
  | (intro h)
 all_goals first
  | exact True.intro
  | exact Or.inr rfl
  | (refine resB ((?_:_=befO a b));show _=(decide (iAt a 0 < iAt b 0) || (iAt a 0 == iAt b 0 && decide (iAt a 1 < iAt b 1)));simp_all only [jcN,jcQ,jdf,jc8,jdc,jde,jc7,jc9,jc4,jc6,jcT,jcY,jdh];done)
theorem xk169:FOk Tryz.prog T 169 (spSB 126 kD):=by
 refine fok (env:=envL [(203,(uX T CO befO))]) (N:=41) tabT (aa xk203 ae) mixed Tryz.func169 rfl Tryz.call169 Tryz.ntmps169 ?_
 rintro args ⟨a,rfl⟩ hwf
 have wa:WfD T (.l 126) (.l a):=arg0 hwf (jcC _)
 have hl:a.length≤maxLen:=wa.len
 refine ⟨by simp,?_⟩
 clear hwf
 rw [Tryz.results169]
 repeat' first
  | (refine And.intro ?_ ?_)
  | (intro h;simp only [reduceCtorEq] at h;done)
  | (intro h;rw [h])
  | (intro h)
 all_goals first
  | skip
 refine am (Q:=_) [0,3] [] (fun n st=>∃ i:Nat,st=([argS 126 a,.val false [.i .i64 (i:Int)]],[])∧(∀ j,j < i→ascB a j=true)∧i≤a.length∧n=a.length - i) ?_ ?_
 · exact ⟨rfl,a.length,0,rfl,nolt _,jcl _,rfl⟩
 rintro n st ⟨i,rfl,hI,hle,rfl⟩
 repeat' first
  | (refine And.intro ?_ ?_)
  | (intro h;simp only [reduceCtorEq] at h;done)
  | (intro h;rw [h])
  | (intro h)
 all_goals first
  | (show av _=true;kernel_rfl)
  | (show aX _ _=true;kernel_rfl)
  | exact True.intro
  | exact Or.inr rfl
  | with_reducible exact jcy _
  | (have hi:i < a.length:=ltN (by with_reducible assumption)
     first
      | with_reducible exact jck (by with_reducible assumption)
      | (show (i:Int) < _;omega)
        | with_reducible exact jcy _
        | (show IntKind.i64.wrap ((i:Int) - 1) < (a.length:Int);rw [iT (jck (show decide ((i:Int) > 0)=true by with_reducible assumption)) hi hl];omega)
        | (rw [iT (jck (show decide ((i:Int) > 0)=true by with_reducible assumption)) hi hl];omega)
        | (rw [iT (jck (show decide ((i:Int) > 0)=true by with_reducible assumption)) hi hl,jcG];omega)
        | exact ⟨_,_,wa.row rfl (by rw [iT (jck (show decide ((i:Int) > 0)=true by with_reducible assumption)) hi hl,jcG];omega),wa.row rfl (by rw [jcG];exact hi),rfl⟩
        | exact mT (P:=ascB a) hi (ut (l:=a) (i:=i) (by assumption))
        | exact mT (P:=ascB a) hi (ur (l:=a) (i:=i) (by assumption))
        | exact mT (P:=ascB a) hi (uq (l:=a) (i:=i) (iT (jck (show decide ((i:Int) > 0)=true by with_reducible assumption)) hi hl) (show decide ((i:Int) > 0)=true by with_reducible assumption) (by assumption))
        | (unfold kD;exact kR hI hi)
        | (refine ⟨a.length - (i+1),by omega,i+1,?_,aJ hI (P:=fun j=>ascB a j) ?_,by omega,rfl⟩
           · exact congrArg (fun z:Int=>(([argS 126 a,.val false [.i .i64 z]],[]):Snap)) (wrapN hi hl)
           · exact qj (l:=a) (i:=i) (by assumption) (by assumption) (by with_reducible assumption))
        | (refine ⟨a.length - (i+1),by omega,i+1,?_,aJ hI (P:=fun j=>ascB a j) ?_,by omega,rfl⟩
           · exact congrArg (fun z:Int=>(([argS 126 a,.val false [.i .i64 z]],[]):Snap)) (wrapN hi hl)
           · exact mD (l:=a) (i:=i) (iT (jck (show decide ((i:Int) > 0)=true by with_reducible assumption)) hi hl) (by assumption) (by assumption) (by assumption)))
  | (have hi:¬ i < a.length:=nltN (by with_reducible assumption)
     first
      | (unfold kD;exact kR hI hi)
      | (refine ⟨a.length - (i+1),by omega,i+1,?_,aJ hI (P:=fun j=>ascB a j) ?_,by omega,rfl⟩
         · exact congrArg (fun z:Int=>(([argS 126 a,.val false [.i .i64 z]],[]):Snap)) (wrapN hi hl)
         · exact mD (l:=a) (i:=i) (iT (jck (show decide ((i:Int) > 0)=true by with_reducible assumption)) hi hl) (by assumption) (by assumption) (by assumption)))
  | (show aV _ _;exact rfl)
theorem xk125:FOk Tryz.prog T 125 (spGB T cV (fun _=>True) tblV):=by
 refine fok (env:=envL [(168,(spSB 9 du)),(169,(spSB 126 kD)),(83,iU)]) (N:=55) tabT (aa xk168 (aa xk169 (aa ok83 ae))) mixed Tryz.func125 rfl Tryz.call125 Tryz.ntmps125 ?_
 rintro args ⟨a,wa,_,rfl⟩ hwf
 have wA:WfD T (.l 101) (.l (a.getD 6 default).rows):=wa.rows (j:=6) rfl
 have hl:=wA.len
 refine ⟨by simp,?_⟩
 clear hwf
 rw [Tryz.results125]
 repeat' first
  | (refine And.intro ?_ ?_)
  | (intro h;simp only [reduceCtorEq] at h;done)
  | (intro h;rw [h])
  | (intro h)
 all_goals first
  | exact True.intro
  | exact Or.inr rfl
  | exact ⟨_,rfl⟩
  | exact rz (a:=a) (bm (by assumption))
  | exact ry (a:=a) (by assumption)
  | skip
 have hc:du (a.getD 5 default).rows=true:=aI (by assumption)
 have hr:decide (((a.getD 6 default).rows.length:Int) > 12)=false:=by assumption
 refine am (Q:=_) [1,3] [1] (fun n st=>∃ i:Nat,st=([.ptr 1 1 0,.val false [.i .i64 (i:Int)]],[(1,(rowC cV a).map fun c=>.val false [c])])∧(∀ j,j < i→rowOk (a.getD 5 default).rows.length (rAt (a.getD 6 default).rows j)=true)∧i≤(a.getD 6 default).rows.length∧n=(a.getD 6 default).rows.length - i) ?_ ?_
 · exact ⟨rfl,(a.getD 6 default).rows.length,0,rfl,nolt _,jcl _,rfl⟩
 rintro n st ⟨i,rfl,hI,hle,rfl⟩
 repeat' first
  | (refine And.intro ?_ ?_)
  | (intro h;simp only [reduceCtorEq] at h;done)
  | (intro h;rw [h])
  | (intro h)
 all_goals first
  | exact True.intro
  | exact Or.inr rfl
  | with_reducible exact jcy _
  | (have hi:i < (a.getD 6 default).rows.length:=ltN (by with_reducible assumption)
     first
      | exact ⟨_,rfl⟩
      | with_reducible exact jck (by with_reducible assumption)
      | exact eu hi (se (by assumption))
      | exact eu hi (lN (bm (by assumption))))
  | (have hi:¬ i < (a.getD 6 default).rows.length:=nltN (by with_reducible assumption)
     exact rx hc hr hI hi)
  | skip
 have hi:i < (a.getD 6 default).rows.length:=ltN (by assumption)
 have wr:WfRow T [.l 3,.l 126] (rAt (a.getD 6 default).rows i):=wA.row rfl (by rw [jcG];exact hi)
 have wB:WfD T (.l 3) (.l ((rAt (a.getD 6 default).rows i).getD 0 default).rows):=wr.rows (j:=0) rfl
 have lb:=wB.len
 have wC:WfD T (.l 126) (.l ((rAt (a.getD 6 default).rows i).getD 1 default).rows):=wr.rows (j:=1) rfl
 have lc:=wC.len
 have hrow:=sf (n:=(a.getD 5 default).rows.length) (r:=(rAt (a.getD 6 default).rows i)) (by assumption)
 have hasc:kD ((rAt (a.getD 6 default).rows i).getD 1 default).rows=true:=aI (by assumption)
 refine am (Q:=_) [1,3,4,5] [1,4] (fun n st=>∃ k:Nat,st=([.ptr 1 1 0,.val false [.i .i64 (i:Int)],.ptr 4 1 0,.val false [.i .i64 (k:Int)]],[(1,(rowC cV a).map fun c=>.val false [c]),(1,(rowC [.l 3,.l 126] (rAt (a.getD 6 default).rows i)).map fun c=>.val false [c])])∧(∀ j,j < k→inR (iAt (rAt ((rAt (a.getD 6 default).rows i).getD 0 default).rows j) 0) (-1000000000) 1000000000=true)∧k≤((rAt (a.getD 6 default).rows i).getD 0 default).rows.length∧n=((rAt (a.getD 6 default).rows i).getD 0 default).rows.length - k) ?_ ?_
 · exact ⟨rfl,((rAt (a.getD 6 default).rows i).getD 0 default).rows.length,0,rfl,nolt _,jcl _,rfl⟩
 rintro n st ⟨k,rfl,kI,kle,rfl⟩
 repeat' first
  | (refine And.intro ?_ ?_)
  | (intro h;simp only [reduceCtorEq] at h;done)
  | (intro h;rw [h])
  | (intro h)
 all_goals first
  | exact True.intro
  | exact Or.inr rfl
  | with_reducible exact jcy _
  | (have hk:k < ((rAt (a.getD 6 default).rows i).getD 0 default).rows.length:=ltN (by with_reducible assumption)
     first
      | exact ⟨_,rfl⟩
      | with_reducible exact jck (by with_reducible assumption)
      | exact eu hi (sd (bI (P:=fun j=>inR (iAt (rAt ((rAt (a.getD 6 default).rows i).getD 0 default).rows j) 0) (-1000000000) 1000000000) hk (bm (by assumption))))
      | (show aV _ _;exact rfl)
      | (refine ⟨((rAt (a.getD 6 default).rows i).getD 0 default).rows.length - (k+1),by omega,k+1,?_,aJ kI (P:=fun j=>inR (iAt (rAt ((rAt (a.getD 6 default).rows i).getD 0 default).rows j) 0) (-1000000000) 1000000000 ) (aI (by assumption)),by omega,rfl⟩
         exact congrArg (fun z:Int=>(([.ptr 1 1 0,.val false [.i .i64 (i:Int)],.ptr 4 1 0,.val false [.i .i64 z]],[(1,(rowC cV a).map fun c=>.val false [c]),(1,(rowC [.l 3,.l 126] (rAt (a.getD 6 default).rows i)).map fun c=>.val false [c])]):Snap)) (wrapN hk lb)))
  | (have hk:¬ k < ((rAt (a.getD 6 default).rows i).getD 0 default).rows.length:=nltN (by with_reducible assumption)
     have hnum:jV ((rAt (a.getD 6 default).rows i).getD 0 default).rows=true:=cD kI hk
     first
      | (refine ⟨(a.getD 6 default).rows.length - (i+1),by omega,i+1,?_,aJ hI (P:=fun j=>rowOk (a.getD 5 default).rows.length (rAt (a.getD 6 default).rows j)) ?_,by omega,rfl⟩
         · exact congrArg (fun z:Int=>(([.ptr 1 1 0,.val false [.i .i64 z]],[(1,(rowC cV a).map fun c=>.val false [c])]):Snap)) (wrapN hi hl)
         · exact sb hrow hasc hnum)
      | (show aV _ _;exact rfl))
theorem xk57:FOk Tryz.prog T 57 (spGB T cV (fun _=>True) tblV):=by
 refine fok (env:=envL [(87,(spSB 9 du)),(54,iU),(88,(uX T CO befO))]) (N:=77) tabT (aa xk87 (aa ok54 (aa xk88 ae))) mixed Tryz.func57 rfl Tryz.call57 Tryz.ntmps57 ?_
 rintro args ⟨a,wa,_,rfl⟩ hwf
 have wA:WfD T (.l 101) (.l (a.getD 6 default).rows):=wa.rows (j:=6) rfl
 have hl:=wA.len
 refine ⟨by simp,?_⟩
 clear hwf
 rw [Tryz.results57]
 repeat' first
  | (refine And.intro ?_ ?_)
  | (intro h;simp only [reduceCtorEq] at h;done)
  | (intro h;rw [h])
  | (intro h)
 all_goals first
  | exact True.intro
  | exact Or.inr rfl
  | exact ⟨_,rfl⟩
  | exact rz (a:=a) (bm (by assumption))
  | exact ry (a:=a) (by assumption)
  | skip
 have hc:du (a.getD 5 default).rows=true:=aI (by assumption)
 have hr:decide (((a.getD 6 default).rows.length:Int) > 12)=false:=by assumption
 refine am (Q:=_) [1,20,21,22] [1] (fun n st=>∃ i:Nat,st=([.ptr 1 1 0,argS 101 (a.getD 6 default).rows,.val false [.i .i64 (a.getD 6 default).rows.length],.val false [.i .i64 (i:Int)]],[(1,(rowC cV a).map fun c=>.val false [c])])∧(∀ j,j < i→rowOk (a.getD 5 default).rows.length (rAt (a.getD 6 default).rows j)=true)∧i≤(a.getD 6 default).rows.length∧n=(a.getD 6 default).rows.length - i) ?_ ?_
 · exact ⟨rfl,(a.getD 6 default).rows.length,0,rfl,nolt _,jcl _,rfl⟩
 rintro n st ⟨i,rfl,hI,hle,rfl⟩
 repeat' first
  | (refine And.intro ?_ ?_)
  | (intro h;simp only [reduceCtorEq] at h;done)
  | (intro h;rw [h])
  | (intro h)
 all_goals first
  | exact True.intro
  | exact Or.inr rfl
  | with_reducible exact jcy _
  | (have hi:i < (a.getD 6 default).rows.length:=ltN (by with_reducible assumption)
     first
      | with_reducible exact jck (by with_reducible assumption)
      | exact eu hi (se (by assumption)))
  | (have hi:¬ i < (a.getD 6 default).rows.length:=nltN (by with_reducible assumption)
     exact rx hc hr hI hi)
  | skip
 have hi:i < (a.getD 6 default).rows.length:=ltN (by assumption)
 have wr:WfRow T [.l 3,.l 126] (rAt (a.getD 6 default).rows i):=wA.row rfl (by rw [jcG];exact hi)
 have wB:WfD T (.l 3) (.l ((rAt (a.getD 6 default).rows i).getD 0 default).rows):=wr.rows (j:=0) rfl
 have lb:=wB.len
 have wC:WfD T (.l 126) (.l ((rAt (a.getD 6 default).rows i).getD 1 default).rows):=wr.rows (j:=1) rfl
 have lc:=wC.len
 have hrow:=sf (n:=(a.getD 5 default).rows.length) (r:=(rAt (a.getD 6 default).rows i)) (by assumption)

 refine am (Q:=_) [1,20,21,22,4,34,35,36] [1,4] (fun n st=>∃ k:Nat,st=([.ptr 1 1 0,argS 101 (a.getD 6 default).rows,.val false [.i .i64 (a.getD 6 default).rows.length],.val false [.i .i64 (i:Int)],.ptr 4 1 0,argS 3 ((rAt (a.getD 6 default).rows i).getD 0 default).rows,.val false [.i .i64 ((rAt (a.getD 6 default).rows i).getD 0 default).rows.length],.val false [.i .i64 (k:Int)]],[(1,(rowC cV a).map fun c=>.val false [c]),(1,(rowC [.l 3,.l 126] (rAt (a.getD 6 default).rows i)).map fun c=>.val false [c])])∧(∀ j,j < k→inR (iAt (rAt ((rAt (a.getD 6 default).rows i).getD 0 default).rows j) 0) (-1000000000) 1000000000=true)∧k≤((rAt (a.getD 6 default).rows i).getD 0 default).rows.length∧n=((rAt (a.getD 6 default).rows i).getD 0 default).rows.length - k) ?_ ?_
 · exact ⟨rfl,((rAt (a.getD 6 default).rows i).getD 0 default).rows.length,0,rfl,nolt _,jcl _,rfl⟩
 rintro n st ⟨k,rfl,kI,kle,rfl⟩
 repeat' first
  | (refine And.intro ?_ ?_)
  | (intro h;simp only [reduceCtorEq] at h;done)
  | (intro h;rw [h])
  | (intro h)
 all_goals first
  | exact True.intro
  | exact Or.inr rfl
  | with_reducible exact jcy _
  | (have hk:k < ((rAt (a.getD 6 default).rows i).getD 0 default).rows.length:=ltN (by with_reducible assumption)
     first
      | exact ⟨_,rfl⟩
      | with_reducible exact jck (by with_reducible assumption)
      | exact eu hi (sd (bI (P:=fun j=>inR (iAt (rAt ((rAt (a.getD 6 default).rows i).getD 0 default).rows j) 0) (-1000000000) 1000000000) hk (bm (by assumption))))
      | (show aV _ _;exact rfl)
      | (refine ⟨((rAt (a.getD 6 default).rows i).getD 0 default).rows.length - (k+1),by omega,k+1,?_,aJ kI (P:=fun j=>inR (iAt (rAt ((rAt (a.getD 6 default).rows i).getD 0 default).rows j) 0) (-1000000000) 1000000000 ) (aI (by assumption)),by omega,rfl⟩
         exact congrArg (fun z:Int=>(([.ptr 1 1 0,argS 101 (a.getD 6 default).rows,.val false [.i .i64 (a.getD 6 default).rows.length],.val false [.i .i64 (i:Int)],.ptr 4 1 0,argS 3 ((rAt (a.getD 6 default).rows i).getD 0 default).rows,.val false [.i .i64 ((rAt (a.getD 6 default).rows i).getD 0 default).rows.length],.val false [.i .i64 z]],[(1,(rowC cV a).map fun c=>.val false [c]),(1,(rowC [.l 3,.l 126] (rAt (a.getD 6 default).rows i)).map fun c=>.val false [c])]):Snap)) (wrapN hk lb)))
  | (have hk:¬ k < ((rAt (a.getD 6 default).rows i).getD 0 default).rows.length:=nltN (by with_reducible assumption)
     have hnum:jV ((rAt (a.getD 6 default).rows i).getD 0 default).rows=true:=cD kI hk
     first
      | skip)
  | skip
 have hk:¬ k < ((rAt (a.getD 6 default).rows i).getD 0 default).rows.length:=nltN (by with_reducible assumption)
 have hnum:jV ((rAt (a.getD 6 default).rows i).getD 0 default).rows=true:=cD kI hk
 refine am (Q:=_) [1,20,21,22,4,45,46,47] [1,4] (fun n st=>∃ m:Nat,st=([.ptr 1 1 0,argS 101 (a.getD 6 default).rows,.val false [.i .i64 (a.getD 6 default).rows.length],.val false [.i .i64 (i:Int)],.ptr 4 1 0,argS 126 ((rAt (a.getD 6 default).rows i).getD 1 default).rows,.val false [.i .i64 ((rAt (a.getD 6 default).rows i).getD 1 default).rows.length],.val false [.i .i64 (m:Int)]],[(1,(rowC cV a).map fun c=>.val false [c]),(1,(rowC [.l 3,.l 126] (rAt (a.getD 6 default).rows i)).map fun c=>.val false [c])])∧(∀ j,j < m→ascB ((rAt (a.getD 6 default).rows i).getD 1 default).rows j=true)∧m≤((rAt (a.getD 6 default).rows i).getD 1 default).rows.length∧n=((rAt (a.getD 6 default).rows i).getD 1 default).rows.length - m) ?_ ?_
 · exact ⟨rfl,((rAt (a.getD 6 default).rows i).getD 1 default).rows.length,0,rfl,nolt _,jcl _,rfl⟩
 rintro n st ⟨m,rfl,mI,mle,rfl⟩
 repeat' first
  | (refine And.intro ?_ ?_)
  | (intro h;simp only [reduceCtorEq] at h;done)
  | (intro h;rw [h])
  | (intro h)
 all_goals first
  | (show av _=true;kernel_rfl)
  | (show aX _ _=true;kernel_rfl)
  | exact True.intro
  | exact Or.inr rfl
  | with_reducible exact jcy _
  | (have hm:m < ((rAt (a.getD 6 default).rows i).getD 1 default).rows.length:=ltN (by with_reducible assumption)
     first
      | with_reducible exact jck (by with_reducible assumption)
      | (show IntKind.i64.wrap ((m:Int) - 1) < (((rAt (a.getD 6 default).rows i).getD 1 default).rows.length:Int);rw [iT (jck (show decide ((m:Int) > 0)=true by with_reducible assumption)) hm lc];omega)
      | (rw [iT (jck (show decide ((m:Int) > 0)=true by with_reducible assumption)) hm lc];omega)
      | exact ⟨_,_,wC.row rfl (by rw [iT (jck (show decide ((m:Int) > 0)=true by with_reducible assumption)) hm lc,jcG];omega),wC.row rfl (by rw [jcG];exact hm),rfl⟩
      | exact eu hi (lN (bI (P:=ascB ((rAt (a.getD 6 default).rows i).getD 1 default).rows) hm (ut (l:=((rAt (a.getD 6 default).rows i).getD 1 default).rows) (i:=m) (by assumption))))
      | exact eu hi (lN (bI (P:=ascB ((rAt (a.getD 6 default).rows i).getD 1 default).rows) hm (ur (l:=((rAt (a.getD 6 default).rows i).getD 1 default).rows) (i:=m) (by assumption))))
      | exact eu hi (lN (bI (P:=ascB ((rAt (a.getD 6 default).rows i).getD 1 default).rows) hm (uq (l:=((rAt (a.getD 6 default).rows i).getD 1 default).rows) (i:=m) (iT (jck (show decide ((m:Int) > 0)=true by with_reducible assumption)) hm lc) (show decide ((m:Int) > 0)=true by with_reducible assumption) (by assumption))))
      | (show aV _ _;exact rfl)
      | (refine ⟨((rAt (a.getD 6 default).rows i).getD 1 default).rows.length - (m+1),by omega,m+1,?_,aJ mI (P:=ascB ((rAt (a.getD 6 default).rows i).getD 1 default).rows) (qj (l:=((rAt (a.getD 6 default).rows i).getD 1 default).rows) (i:=m) (by assumption) (by assumption) (by with_reducible assumption)),by omega,rfl⟩
         exact congrArg (fun z:Int=>(([.ptr 1 1 0,argS 101 (a.getD 6 default).rows,.val false [.i .i64 (a.getD 6 default).rows.length],.val false [.i .i64 (i:Int)],.ptr 4 1 0,argS 126 ((rAt (a.getD 6 default).rows i).getD 1 default).rows,.val false [.i .i64 ((rAt (a.getD 6 default).rows i).getD 1 default).rows.length],.val false [.i .i64 z]],[(1,(rowC cV a).map fun c=>.val false [c]),(1,(rowC [.l 3,.l 126] (rAt (a.getD 6 default).rows i)).map fun c=>.val false [c])]):Snap)) (wrapN hm lc))
      | (refine ⟨((rAt (a.getD 6 default).rows i).getD 1 default).rows.length - (m+1),by omega,m+1,?_,aJ mI (P:=ascB ((rAt (a.getD 6 default).rows i).getD 1 default).rows) (mD (l:=((rAt (a.getD 6 default).rows i).getD 1 default).rows) (i:=m) (iT (jck (show decide ((m:Int) > 0)=true by with_reducible assumption)) hm lc) (by assumption) (by assumption) (by assumption)),by omega,rfl⟩
         exact congrArg (fun z:Int=>(([.ptr 1 1 0,argS 101 (a.getD 6 default).rows,.val false [.i .i64 (a.getD 6 default).rows.length],.val false [.i .i64 (i:Int)],.ptr 4 1 0,argS 126 ((rAt (a.getD 6 default).rows i).getD 1 default).rows,.val false [.i .i64 ((rAt (a.getD 6 default).rows i).getD 1 default).rows.length],.val false [.i .i64 z]],[(1,(rowC cV a).map fun c=>.val false [c]),(1,(rowC [.l 3,.l 126] (rAt (a.getD 6 default).rows i)).map fun c=>.val false [c])]):Snap)) (wrapN hm lc)))
  | (have hm:¬ m < ((rAt (a.getD 6 default).rows i).getD 1 default).rows.length:=nltN (by with_reducible assumption)
     have hasc:kD ((rAt (a.getD 6 default).rows i).getD 1 default).rows=true:=cD mI hm
     first
      | (refine ⟨(a.getD 6 default).rows.length - (i+1),by omega,i+1,?_,aJ hI (P:=fun j=>rowOk (a.getD 5 default).rows.length (rAt (a.getD 6 default).rows j)) ?_,by omega,rfl⟩
         · exact congrArg (fun z:Int=>(([.ptr 1 1 0,argS 101 (a.getD 6 default).rows,.val false [.i .i64 (a.getD 6 default).rows.length],.val false [.i .i64 z]],[(1,(rowC cV a).map fun c=>.val false [c])]):Snap)) (wrapN hi hl)
         · exact sb hrow hasc hnum)
      | (show aV _ _;exact rfl))
end Go.Proofs.YtcllpknipmcolaaGreatDoor.Ab
