/- A part. -/
import Derived.Test.YtdkofgjbbdbglaaGreatDoorCYb
namespace Go.Proofs.YtdkofgjbbdbglaaGreatDoor.Ab
open Go.RowKit
set_option linter.all false
set_option maxRecDepth 100000
set_option maxHeartbeats 2000000
theorem xk211:FOk Tryz.prog T 211 (vv T CO befO):=by
 refine fok (env:=envL []) (N:=24) tabT ae mixed Tryz.func211 rfl Tryz.call211 Tryz.ntmps211 ?_
 rintro args ⟨a,b,wa,wb,rfl⟩ hwf
 refine ⟨by simp,?_⟩
 clear hwf
 rw [Tryz.results211]
 repeat' first
  | refine And.intro ?_ ?_
  | (intro h;simp only [reduceCtorEq] at h;done)
  | (intro h;rw [h])
  | intro h
 all_goals first
  | exact True.intro
  | exact Or.inr rfl
  | (refine resB ((?_:_=befO a b));show _=(decide (iAt a 0 < iAt b 0) || (iAt a 0 == iAt b 0 && decide (iAt a 1 < iAt b 1)));simp_all only [jdz,jdC,jd1,jdU,jdY,jd0,jdT,jdV,jdQ,jdS,jdF,jdK,jd3];done)
theorem xk112:FOk Tryz.prog T 112 (vv T CO befO):=by
 refine fok (env:=envL []) (N:=24) tabT ae mixed Tryz.func112 rfl Tryz.call112 Tryz.ntmps112 ?_
 rintro args ⟨a,b,wa,wb,rfl⟩ hwf
 refine ⟨by simp,?_⟩
 clear hwf
 rw [Tryz.results112]
 repeat' first
  | refine And.intro ?_ ?_
  | (intro h;simp only [reduceCtorEq] at h;done)
  | (intro h;rw [h])
  | intro h
 all_goals first
  | exact True.intro
  | exact Or.inr rfl
  | (refine resB ((?_:_=befO a b));show _=(decide (iAt a 0 < iAt b 0) || (iAt a 0 == iAt b 0 && decide (iAt a 1 < iAt b 1)));simp_all only [jdz,jdC,jd1,jdU,jdY,jd0,jdT,jdV,jdQ,jdS,jdF,jdK,jd3];done)
theorem xk172:FOk Tryz.prog T 172 (spSB 150 kO):=by
 refine fok (env:=envL [(211,(vv T CO befO))]) (N:=41) tabT (aa xk211 ae) mixed Tryz.func172 rfl Tryz.call172 Tryz.ntmps172 ?_
 rintro args ⟨a,rfl⟩ hwf
 have wa:WfD T (.l 150) (.l a):=arg0 hwf (jdo _)
 have hl:a.length≤maxLen:=wa.len
 refine ⟨by simp,?_⟩
 clear hwf
 rw [Tryz.results172]
 repeat' first
  | refine And.intro ?_ ?_
  | (intro h;simp only [reduceCtorEq] at h;done)
  | (intro h;rw [h])
  | intro h
 all_goals first
  | skip
 refine aj (Q:=_) [0,3] [] (fun n st=>∃ i:Nat,st=([argS 150 a,.val false [.i .i64 (i:Int)]],[])∧(∀ j,j < i→ascB a j=true)∧i≤a.length∧n=a.length - i) ?_ ?_
 · exact ⟨rfl,a.length,0,rfl,nolt _,jc7 _,rfl⟩
 rintro n st ⟨i,rfl,hI,hle,rfl⟩
 repeat' first
  | refine And.intro ?_ ?_
  | (intro h;simp only [reduceCtorEq] at h;done)
  | (intro h;rw [h])
  | intro h
 all_goals first
  | (show av _=true;kernel_rfl)
  | (show ba _ _=true;kernel_rfl)
  | exact True.intro
  | exact Or.inr rfl
  | with_reducible exact jdk _
  | (have hi:i < a.length:=ltN (by with_reducible assumption)
     first
      | with_reducible exact jc6 (by with_reducible assumption)
      | (show (i:Int) < _;omega)
        | with_reducible exact jdk _
        | (show IntKind.i64.wrap ((i:Int) - 1) < (a.length:Int);rw [ja (jc6 (show decide ((i:Int) > 0)=true by with_reducible assumption)) hi hl];omega)
        | (rw [ja (jc6 (show decide ((i:Int) > 0)=true by with_reducible assumption)) hi hl];omega)
        | (rw [ja (jc6 (show decide ((i:Int) > 0)=true by with_reducible assumption)) hi hl,jds];omega)
        | exact ⟨_,_,wa.row rfl (by rw [ja (jc6 (show decide ((i:Int) > 0)=true by with_reducible assumption)) hi hl,jds];omega),wa.row rfl (by rw [jds];exact hi),rfl⟩
        | exact m6 (P:=ascB a) hi (uJ (l:=a) (i:=i) (by assumption))
        | exact m6 (P:=ascB a) hi (uI (l:=a) (i:=i) (by assumption))
        | exact m6 (P:=ascB a) hi (uH (l:=a) (i:=i) (ja (jc6 (show decide ((i:Int) > 0)=true by with_reducible assumption)) hi hl) (show decide ((i:Int) > 0)=true by with_reducible assumption) (by assumption))
        | (unfold kO;exact k9 hI hi)
        | (refine ⟨a.length - (i+1),by omega,i+1,?_,aK hI (P:=fun j=>ascB a j) ?_,by omega,rfl⟩
           · exact congrArg (fun z:Int=>(([argS 150 a,.val false [.i .i64 z]],[]):Snap)) (wrapN hi hl)
           · exact qq (l:=a) (i:=i) (by assumption) (by assumption) (by with_reducible assumption))
        | (refine ⟨a.length - (i+1),by omega,i+1,?_,aK hI (P:=fun j=>ascB a j) ?_,by omega,rfl⟩
           · exact congrArg (fun z:Int=>(([argS 150 a,.val false [.i .i64 z]],[]):Snap)) (wrapN hi hl)
           · exact mK (l:=a) (i:=i) (ja (jc6 (show decide ((i:Int) > 0)=true by with_reducible assumption)) hi hl) (by assumption) (by assumption) (by assumption)))
  | (have hi:¬ i < a.length:=nltN (by with_reducible assumption)
     first
      | (unfold kO;exact k9 hI hi)
      | (refine ⟨a.length - (i+1),by omega,i+1,?_,aK hI (P:=fun j=>ascB a j) ?_,by omega,rfl⟩
         · exact congrArg (fun z:Int=>(([argS 150 a,.val false [.i .i64 z]],[]):Snap)) (wrapN hi hl)
         · exact mK (l:=a) (i:=i) (ja (jc6 (show decide ((i:Int) > 0)=true by with_reducible assumption)) hi hl) (by assumption) (by assumption) (by assumption)))
  | (show aX _ _;exact rfl)
theorem xk119:FOk Tryz.prog T 119 (spGB T cV (fun _=>True) tblV):=by
 refine fok (env:=envL [(171,(spSB 9 dw)),(172,(spSB 150 kO)),(92,jb)]) (N:=55) tabT (aa xk171 (aa xk172 (aa ok92 ae))) mixed Tryz.func119 rfl Tryz.call119 Tryz.ntmps119 ?_
 rintro args ⟨a,wa,_,rfl⟩ hwf
 have wA:WfD T (.l 124) (.l (a.getD 6 default).rows):=wa.rows (j:=6) rfl
 have hl:=wA.len
 refine ⟨by simp,?_⟩
 clear hwf
 rw [Tryz.results119]
 repeat' first
  | refine And.intro ?_ ?_
  | (intro h;simp only [reduceCtorEq] at h;done)
  | (intro h;rw [h])
  | intro h
 all_goals first
  | exact True.intro
  | exact Or.inr rfl
  | exact ⟨_,rfl⟩
  | exact rK (a:=a) (bi (by assumption))
  | exact rJ (a:=a) (by assumption)
  | skip
 have hc:dw (a.getD 5 default).rows=true:=aE (by assumption)
 have hr:decide (((a.getD 6 default).rows.length:Int) > 12)=false:=by assumption
 refine aj (Q:=_) [1,3] [1] (fun n st=>∃ i:Nat,st=([.ptr 1 1 0,.val false [.i .i64 (i:Int)]],[(1,(rowC cV a).map fun c=>.val false [c])])∧(∀ j,j < i→rowOk (a.getD 5 default).rows.length (rAt (a.getD 6 default).rows j)=true)∧i≤(a.getD 6 default).rows.length∧n=(a.getD 6 default).rows.length - i) ?_ ?_
 · exact ⟨rfl,(a.getD 6 default).rows.length,0,rfl,nolt _,jc7 _,rfl⟩
 rintro n st ⟨i,rfl,hI,hle,rfl⟩
 repeat' first
  | refine And.intro ?_ ?_
  | (intro h;simp only [reduceCtorEq] at h;done)
  | (intro h;rw [h])
  | intro h
 all_goals first
  | exact True.intro
  | exact Or.inr rfl
  | with_reducible exact jdk _
  | (have hi:i < (a.getD 6 default).rows.length:=ltN (by with_reducible assumption)
     first
      | exact ⟨_,rfl⟩
      | with_reducible exact jc6 (by with_reducible assumption)
      | exact eu hi (sG (by assumption))
      | exact eu hi (lW (bi (by assumption))))
  | (have hi:¬ i < (a.getD 6 default).rows.length:=nltN (by with_reducible assumption)
     exact rI hc hr hI hi)
  | skip
 have hi:i < (a.getD 6 default).rows.length:=ltN (by assumption)
 have wr:WfRow T [.l 3,.l 150] (rAt (a.getD 6 default).rows i):=wA.row rfl (by rw [jds];exact hi)
 have wB:WfD T (.l 3) (.l ((rAt (a.getD 6 default).rows i).getD 0 default).rows):=wr.rows (j:=0) rfl
 have lb:=wB.len
 have wC:WfD T (.l 150) (.l ((rAt (a.getD 6 default).rows i).getD 1 default).rows):=wr.rows (j:=1) rfl
 have lc:=wC.len
 have hrow:=sH (n:=(a.getD 5 default).rows.length) (r:=(rAt (a.getD 6 default).rows i)) (by assumption)
 have hasc:kO ((rAt (a.getD 6 default).rows i).getD 1 default).rows=true:=aE (by assumption)
 refine aj (Q:=_) [1,3,4,5] [1,4] (fun n st=>∃ k:Nat,st=([.ptr 1 1 0,.val false [.i .i64 (i:Int)],.ptr 4 1 0,.val false [.i .i64 (k:Int)]],[(1,(rowC cV a).map fun c=>.val false [c]),(1,(rowC [.l 3,.l 150] (rAt (a.getD 6 default).rows i)).map fun c=>.val false [c])])∧(∀ j,j < k→inR (iAt (rAt ((rAt (a.getD 6 default).rows i).getD 0 default).rows j) 0) (-1000000000) 1000000000=true)∧k≤((rAt (a.getD 6 default).rows i).getD 0 default).rows.length∧n=((rAt (a.getD 6 default).rows i).getD 0 default).rows.length - k) ?_ ?_
 · exact ⟨rfl,((rAt (a.getD 6 default).rows i).getD 0 default).rows.length,0,rfl,nolt _,jc7 _,rfl⟩
 rintro n st ⟨k,rfl,kI,kle,rfl⟩
 repeat' first
  | refine And.intro ?_ ?_
  | (intro h;simp only [reduceCtorEq] at h;done)
  | (intro h;rw [h])
  | intro h
 all_goals first
  | exact True.intro
  | exact Or.inr rfl
  | with_reducible exact jdk _
  | (have hk:k < ((rAt (a.getD 6 default).rows i).getD 0 default).rows.length:=ltN (by with_reducible assumption)
     first
      | exact ⟨_,rfl⟩
      | with_reducible exact jc6 (by with_reducible assumption)
      | exact eu hi (sF (bI (P:=fun j=>inR (iAt (rAt ((rAt (a.getD 6 default).rows i).getD 0 default).rows j) 0) (-1000000000) 1000000000) hk (bi (by assumption))))
      | (show aX _ _;exact rfl)
      | (refine ⟨((rAt (a.getD 6 default).rows i).getD 0 default).rows.length - (k+1),by omega,k+1,?_,aK kI (P:=fun j=>inR (iAt (rAt ((rAt (a.getD 6 default).rows i).getD 0 default).rows j) 0) (-1000000000) 1000000000 ) (aE (by assumption)),by omega,rfl⟩
         exact congrArg (fun z:Int=>(([.ptr 1 1 0,.val false [.i .i64 (i:Int)],.ptr 4 1 0,.val false [.i .i64 z]],[(1,(rowC cV a).map fun c=>.val false [c]),(1,(rowC [.l 3,.l 150] (rAt (a.getD 6 default).rows i)).map fun c=>.val false [c])]):Snap)) (wrapN hk lb)))
  | (have hk:¬ k < ((rAt (a.getD 6 default).rows i).getD 0 default).rows.length:=nltN (by with_reducible assumption)
     have hnum:j7 ((rAt (a.getD 6 default).rows i).getD 0 default).rows=true:=cF kI hk
     first
      | (refine ⟨(a.getD 6 default).rows.length - (i+1),by omega,i+1,?_,aK hI (P:=fun j=>rowOk (a.getD 5 default).rows.length (rAt (a.getD 6 default).rows j)) ?_,by omega,rfl⟩
         · exact congrArg (fun z:Int=>(([.ptr 1 1 0,.val false [.i .i64 z]],[(1,(rowC cV a).map fun c=>.val false [c])]):Snap)) (wrapN hi hl)
         · exact sD hrow hasc hnum)
      | (show aX _ _;exact rfl))
theorem xk85:FOk Tryz.prog T 85 (spGB T cV (fun _=>True) tblV):=by
 refine fok (env:=envL [(111,(spSB 9 dw)),(82,jb),(112,(vv T CO befO))]) (N:=77) tabT (aa xk111 (aa ok82 (aa xk112 ae))) mixed Tryz.func85 rfl Tryz.call85 Tryz.ntmps85 ?_
 rintro args ⟨a,wa,_,rfl⟩ hwf
 have wA:WfD T (.l 124) (.l (a.getD 6 default).rows):=wa.rows (j:=6) rfl
 have hl:=wA.len
 refine ⟨by simp,?_⟩
 clear hwf
 rw [Tryz.results85]
 repeat' first
  | refine And.intro ?_ ?_
  | (intro h;simp only [reduceCtorEq] at h;done)
  | (intro h;rw [h])
  | intro h
 all_goals first
  | exact True.intro
  | exact Or.inr rfl
  | exact ⟨_,rfl⟩
  | exact rK (a:=a) (bi (by assumption))
  | exact rJ (a:=a) (by assumption)
  | skip
 have hc:dw (a.getD 5 default).rows=true:=aE (by assumption)
 have hr:decide (((a.getD 6 default).rows.length:Int) > 12)=false:=by assumption
 refine aj (Q:=_) [1,20,21,22] [1] (fun n st=>∃ i:Nat,st=([.ptr 1 1 0,argS 124 (a.getD 6 default).rows,.val false [.i .i64 (a.getD 6 default).rows.length],.val false [.i .i64 (i:Int)]],[(1,(rowC cV a).map fun c=>.val false [c])])∧(∀ j,j < i→rowOk (a.getD 5 default).rows.length (rAt (a.getD 6 default).rows j)=true)∧i≤(a.getD 6 default).rows.length∧n=(a.getD 6 default).rows.length - i) ?_ ?_
 · exact ⟨rfl,(a.getD 6 default).rows.length,0,rfl,nolt _,jc7 _,rfl⟩
 rintro n st ⟨i,rfl,hI,hle,rfl⟩
 repeat' first
  | refine And.intro ?_ ?_
  | (intro h;simp only [reduceCtorEq] at h;done)
  | (intro h;rw [h])
  | intro h
 all_goals first
  | exact True.intro
  | exact Or.inr rfl
  | with_reducible exact jdk _
  | (have hi:i < (a.getD 6 default).rows.length:=ltN (by with_reducible assumption)
     first
      | with_reducible exact jc6 (by with_reducible assumption)
      | exact eu hi (sG (by assumption)))
  | (have hi:¬ i < (a.getD 6 default).rows.length:=nltN (by with_reducible assumption)
     exact rI hc hr hI hi)
  | skip
 have hi:i < (a.getD 6 default).rows.length:=ltN (by assumption)
 have wr:WfRow T [.l 3,.l 150] (rAt (a.getD 6 default).rows i):=wA.row rfl (by rw [jds];exact hi)
 have wB:WfD T (.l 3) (.l ((rAt (a.getD 6 default).rows i).getD 0 default).rows):=wr.rows (j:=0) rfl
 have lb:=wB.len
 have wC:WfD T (.l 150) (.l ((rAt (a.getD 6 default).rows i).getD 1 default).rows):=wr.rows (j:=1) rfl
 have lc:=wC.len
 have hrow:=sH (n:=(a.getD 5 default).rows.length) (r:=(rAt (a.getD 6 default).rows i)) (by assumption)

 refine aj (Q:=_) [1,20,21,22,4,34,35,36] [1,4] (fun n st=>∃ k:Nat,st=([.ptr 1 1 0,argS 124 (a.getD 6 default).rows,.val false [.i .i64 (a.getD 6 default).rows.length],.val false [.i .i64 (i:Int)],.ptr 4 1 0,argS 3 ((rAt (a.getD 6 default).rows i).getD 0 default).rows,.val false [.i .i64 ((rAt (a.getD 6 default).rows i).getD 0 default).rows.length],.val false [.i .i64 (k:Int)]],[(1,(rowC cV a).map fun c=>.val false [c]),(1,(rowC [.l 3,.l 150] (rAt (a.getD 6 default).rows i)).map fun c=>.val false [c])])∧(∀ j,j < k→inR (iAt (rAt ((rAt (a.getD 6 default).rows i).getD 0 default).rows j) 0) (-1000000000) 1000000000=true)∧k≤((rAt (a.getD 6 default).rows i).getD 0 default).rows.length∧n=((rAt (a.getD 6 default).rows i).getD 0 default).rows.length - k) ?_ ?_
 · exact ⟨rfl,((rAt (a.getD 6 default).rows i).getD 0 default).rows.length,0,rfl,nolt _,jc7 _,rfl⟩
 rintro n st ⟨k,rfl,kI,kle,rfl⟩
 repeat' first
  | refine And.intro ?_ ?_
  | (intro h;simp only [reduceCtorEq] at h;done)
  | (intro h;rw [h])
  | intro h
 all_goals first
  | exact True.intro
  | exact Or.inr rfl
  | with_reducible exact jdk _
  | (have hk:k < ((rAt (a.getD 6 default).rows i).getD 0 default).rows.length:=ltN (by with_reducible assumption)
     first
      | exact ⟨_,rfl⟩
      | with_reducible exact jc6 (by with_reducible assumption)
      | exact eu hi (sF (bI (P:=fun j=>inR (iAt (rAt ((rAt (a.getD 6 default).rows i).getD 0 default).rows j) 0) (-1000000000) 1000000000) hk (bi (by assumption))))
      | (show aX _ _;exact rfl)
      | (refine ⟨((rAt (a.getD 6 default).rows i).getD 0 default).rows.length - (k+1),by omega,k+1,?_,aK kI (P:=fun j=>inR (iAt (rAt ((rAt (a.getD 6 default).rows i).getD 0 default).rows j) 0) (-1000000000) 1000000000 ) (aE (by assumption)),by omega,rfl⟩
         exact congrArg (fun z:Int=>(([.ptr 1 1 0,argS 124 (a.getD 6 default).rows,.val false [.i .i64 (a.getD 6 default).rows.length],.val false [.i .i64 (i:Int)],.ptr 4 1 0,argS 3 ((rAt (a.getD 6 default).rows i).getD 0 default).rows,.val false [.i .i64 ((rAt (a.getD 6 default).rows i).getD 0 default).rows.length],.val false [.i .i64 z]],[(1,(rowC cV a).map fun c=>.val false [c]),(1,(rowC [.l 3,.l 150] (rAt (a.getD 6 default).rows i)).map fun c=>.val false [c])]):Snap)) (wrapN hk lb)))
  | (have hk:¬ k < ((rAt (a.getD 6 default).rows i).getD 0 default).rows.length:=nltN (by with_reducible assumption)
     have hnum:j7 ((rAt (a.getD 6 default).rows i).getD 0 default).rows=true:=cF kI hk
     first
      | skip)
  | skip
 have hk:¬ k < ((rAt (a.getD 6 default).rows i).getD 0 default).rows.length:=nltN (by with_reducible assumption)
 have hnum:j7 ((rAt (a.getD 6 default).rows i).getD 0 default).rows=true:=cF kI hk
 refine aj (Q:=_) [1,20,21,22,4,45,46,47] [1,4] (fun n st=>∃ m:Nat,st=([.ptr 1 1 0,argS 124 (a.getD 6 default).rows,.val false [.i .i64 (a.getD 6 default).rows.length],.val false [.i .i64 (i:Int)],.ptr 4 1 0,argS 150 ((rAt (a.getD 6 default).rows i).getD 1 default).rows,.val false [.i .i64 ((rAt (a.getD 6 default).rows i).getD 1 default).rows.length],.val false [.i .i64 (m:Int)]],[(1,(rowC cV a).map fun c=>.val false [c]),(1,(rowC [.l 3,.l 150] (rAt (a.getD 6 default).rows i)).map fun c=>.val false [c])])∧(∀ j,j < m→ascB ((rAt (a.getD 6 default).rows i).getD 1 default).rows j=true)∧m≤((rAt (a.getD 6 default).rows i).getD 1 default).rows.length∧n=((rAt (a.getD 6 default).rows i).getD 1 default).rows.length - m) ?_ ?_
 · exact ⟨rfl,((rAt (a.getD 6 default).rows i).getD 1 default).rows.length,0,rfl,nolt _,jc7 _,rfl⟩
 rintro n st ⟨m,rfl,mI,mle,rfl⟩
 repeat' first
  | refine And.intro ?_ ?_
  | (intro h;simp only [reduceCtorEq] at h;done)
  | (intro h;rw [h])
  | intro h
 all_goals first
  | (show av _=true;kernel_rfl)
  | (show ba _ _=true;kernel_rfl)
  | exact True.intro
  | exact Or.inr rfl
  | with_reducible exact jdk _
  | (have hm:m < ((rAt (a.getD 6 default).rows i).getD 1 default).rows.length:=ltN (by with_reducible assumption)
     first
      | with_reducible exact jc6 (by with_reducible assumption)
      | (show IntKind.i64.wrap ((m:Int) - 1) < (((rAt (a.getD 6 default).rows i).getD 1 default).rows.length:Int);rw [ja (jc6 (show decide ((m:Int) > 0)=true by with_reducible assumption)) hm lc];omega)
      | (rw [ja (jc6 (show decide ((m:Int) > 0)=true by with_reducible assumption)) hm lc];omega)
      | exact ⟨_,_,wC.row rfl (by rw [ja (jc6 (show decide ((m:Int) > 0)=true by with_reducible assumption)) hm lc,jds];omega),wC.row rfl (by rw [jds];exact hm),rfl⟩
      | exact eu hi (lW (bI (P:=ascB ((rAt (a.getD 6 default).rows i).getD 1 default).rows) hm (uJ (l:=((rAt (a.getD 6 default).rows i).getD 1 default).rows) (i:=m) (by assumption))))
      | exact eu hi (lW (bI (P:=ascB ((rAt (a.getD 6 default).rows i).getD 1 default).rows) hm (uI (l:=((rAt (a.getD 6 default).rows i).getD 1 default).rows) (i:=m) (by assumption))))
      | exact eu hi (lW (bI (P:=ascB ((rAt (a.getD 6 default).rows i).getD 1 default).rows) hm (uH (l:=((rAt (a.getD 6 default).rows i).getD 1 default).rows) (i:=m) (ja (jc6 (show decide ((m:Int) > 0)=true by with_reducible assumption)) hm lc) (show decide ((m:Int) > 0)=true by with_reducible assumption) (by assumption))))
      | (show aX _ _;exact rfl)
      | (refine ⟨((rAt (a.getD 6 default).rows i).getD 1 default).rows.length - (m+1),by omega,m+1,?_,aK mI (P:=ascB ((rAt (a.getD 6 default).rows i).getD 1 default).rows) (qq (l:=((rAt (a.getD 6 default).rows i).getD 1 default).rows) (i:=m) (by assumption) (by assumption) (by with_reducible assumption)),by omega,rfl⟩
         exact congrArg (fun z:Int=>(([.ptr 1 1 0,argS 124 (a.getD 6 default).rows,.val false [.i .i64 (a.getD 6 default).rows.length],.val false [.i .i64 (i:Int)],.ptr 4 1 0,argS 150 ((rAt (a.getD 6 default).rows i).getD 1 default).rows,.val false [.i .i64 ((rAt (a.getD 6 default).rows i).getD 1 default).rows.length],.val false [.i .i64 z]],[(1,(rowC cV a).map fun c=>.val false [c]),(1,(rowC [.l 3,.l 150] (rAt (a.getD 6 default).rows i)).map fun c=>.val false [c])]):Snap)) (wrapN hm lc))
      | (refine ⟨((rAt (a.getD 6 default).rows i).getD 1 default).rows.length - (m+1),by omega,m+1,?_,aK mI (P:=ascB ((rAt (a.getD 6 default).rows i).getD 1 default).rows) (mK (l:=((rAt (a.getD 6 default).rows i).getD 1 default).rows) (i:=m) (ja (jc6 (show decide ((m:Int) > 0)=true by with_reducible assumption)) hm lc) (by assumption) (by assumption) (by assumption)),by omega,rfl⟩
         exact congrArg (fun z:Int=>(([.ptr 1 1 0,argS 124 (a.getD 6 default).rows,.val false [.i .i64 (a.getD 6 default).rows.length],.val false [.i .i64 (i:Int)],.ptr 4 1 0,argS 150 ((rAt (a.getD 6 default).rows i).getD 1 default).rows,.val false [.i .i64 ((rAt (a.getD 6 default).rows i).getD 1 default).rows.length],.val false [.i .i64 z]],[(1,(rowC cV a).map fun c=>.val false [c]),(1,(rowC [.l 3,.l 150] (rAt (a.getD 6 default).rows i)).map fun c=>.val false [c])]):Snap)) (wrapN hm lc)))
  | (have hm:¬ m < ((rAt (a.getD 6 default).rows i).getD 1 default).rows.length:=nltN (by with_reducible assumption)
     have hasc:kO ((rAt (a.getD 6 default).rows i).getD 1 default).rows=true:=cF mI hm
     first
      | (refine ⟨(a.getD 6 default).rows.length - (i+1),by omega,i+1,?_,aK hI (P:=fun j=>rowOk (a.getD 5 default).rows.length (rAt (a.getD 6 default).rows j)) ?_,by omega,rfl⟩
         · exact congrArg (fun z:Int=>(([.ptr 1 1 0,argS 124 (a.getD 6 default).rows,.val false [.i .i64 (a.getD 6 default).rows.length],.val false [.i .i64 z]],[(1,(rowC cV a).map fun c=>.val false [c])]):Snap)) (wrapN hi hl)
         · exact sD hrow hasc hnum)
      | (show aX _ _;exact rfl))
end Go.Proofs.YtdkofgjbbdbglaaGreatDoor.Ab
