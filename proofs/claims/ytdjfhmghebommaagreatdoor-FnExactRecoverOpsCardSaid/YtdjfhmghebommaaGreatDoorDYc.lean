/- A part. -/
import Derived.Test.YtdjfhmghebommaaGreatDoorDYb
namespace Go.Proofs.YtdjfhmghebommaaGreatDoor.Ab
open Go.RowKit
set_option linter.all false
set_option maxRecDepth 100000
set_option maxHeartbeats 2000000
theorem xk175:FOk Tryz.prog T 175 (uR T CO befO):=by
 refine fok (env:=envL []) (N:=24) tabT af mixed Tryz.func175 rfl Tryz.call175 Tryz.ntmps175 ?_
 rintro args ⟨a,b,wa,wb,rfl⟩ hwf
 refine ⟨by simp,?_⟩
 clear hwf
 rw [Tryz.results175]
 repeat' first
  | refine And.intro ?_ ?_
  | (intro h;simp only [reduceCtorEq] at h;done)
  | (intro h;rw [h])
  | intro h
 all_goals first
  | (show aa _=true;kernel_rfl)|(show am _ _=true;kernel_rfl)|exact True.intro|exact Or.inr rfl|exact Or.inl rfl
  | (refine resB ((?_:_=befO a b));show _=(decide (iAt a 0 < iAt b 0) || (iAt a 0 == iAt b 0 && decide (iAt a 1 < iAt b 1)));simp_all only [jch,jck,jcJ,jcC,jcG,jcI,jcB,jcD,jcy,jcA,jcn,jcs,jcL];done)
  | skip
theorem xk139:FOk Tryz.prog T 139 (uR T CO befO):=by
 refine fok (env:=envL []) (N:=24) tabT af mixed Tryz.func139 rfl Tryz.call139 Tryz.ntmps139 ?_
 rintro args ⟨a,b,wa,wb,rfl⟩ hwf
 refine ⟨by simp,?_⟩
 clear hwf
 rw [Tryz.results139]
 repeat' first
  | refine And.intro ?_ ?_
  | (intro h;simp only [reduceCtorEq] at h;done)
  | (intro h;rw [h])
  | intro h
 all_goals first
  | (show aa _=true;kernel_rfl)|(show am _ _=true;kernel_rfl)|exact True.intro|exact Or.inr rfl|exact Or.inl rfl
  | (refine resB ((?_:_=befO a b));show _=(decide (iAt a 0 < iAt b 0) || (iAt a 0 == iAt b 0 && decide (iAt a 1 < iAt b 1)));simp_all only [jch,jck,jcJ,jcC,jcG,jcI,jcB,jcD,jcy,jcA,jcn,jcs,jcL];done)
  | skip
theorem xk153:FOk Tryz.prog T 153 (spSB 147 kX):=by
 refine fok (env:=envL [(175,(uR T CO befO))]) (N:=41) tabT (ac xk175 af) mixed Tryz.func153 rfl Tryz.call153 Tryz.ntmps153 ?_
 rintro args ⟨a,rfl⟩ hwf
 have wa:WfD T (.l 147) (.l a):=arg0 hwf (jb6 _)
 have hl:a.length≤maxLen:=wa.len
 refine ⟨by simp,?_⟩
 clear hwf
 rw [Tryz.results153]
 repeat' first
  | refine And.intro ?_ ?_
  | (intro h;simp only [reduceCtorEq] at h;done)
  | (intro h;rw [h])
  | intro h
 all_goals first
  | (show aa _=true;kernel_rfl)|(show am _ _=true;kernel_rfl)|exact True.intro|exact Or.inr rfl|exact Or.inl rfl
  | skip
 refine ap (Q:=_) [0,3] [] (fun n st=>∃ i:Nat,st=([argS 147 a,.val false [.i .i64 (i:Int)]],[])∧(∀ j,j < i→ascB a j=true)∧i≤a.length∧n=a.length - i) ?_ ?_
 · exact ⟨rfl,a.length,0,rfl,nolt _,jbP _,rfl⟩
 rintro n st ⟨i,rfl,hI,hle,rfl⟩
 repeat' first
  | refine And.intro ?_ ?_
  | (intro h;simp only [reduceCtorEq] at h;done)
  | (intro h;rw [h])
  | intro h
 all_goals first
  | (show aa _=true;kernel_rfl)|(show am _ _=true;kernel_rfl)|exact True.intro|exact Or.inr rfl|exact Or.inl rfl
  | with_reducible exact jb2 _
  | (have hi:i < a.length:=ltN (by with_reducible assumption)
     first
      | with_reducible exact jbO (by with_reducible assumption)
      | (show (Int.toNat (i:Int)) < _;rw [jca];exact hi)
      | (show (i:Int) < _;omega)
        | with_reducible exact jb2 _
        | (show IntKind.i64.wrap ((i:Int) - 1) < (a.length:Int);rw [eD (jbO (show decide ((i:Int) > 0)=true by with_reducible assumption)) hi hl];omega)
        | (rw [eD (jbO (show decide ((i:Int) > 0)=true by with_reducible assumption)) hi hl];omega)
        | (rw [eD (jbO (show decide ((i:Int) > 0)=true by with_reducible assumption)) hi hl,jca];omega)
        | exact ⟨_,_,wa.row rfl (by rw [eD (jbO (show decide ((i:Int) > 0)=true by with_reducible assumption)) hi hl,jca];omega),wa.row rfl (by rw [jca];exact hi),rfl⟩
        | exact fF (P:=ascB a) hi (pd (l:=a) (i:=i) (by assumption))
        | exact fF (P:=ascB a) hi (pc (l:=a) (i:=i) (by assumption))
        | exact fF (P:=ascB a) hi (o9 (l:=a) (i:=i) (eD (jbO (show decide ((i:Int) > 0)=true by with_reducible assumption)) hi hl) (show decide ((i:Int) > 0)=true by with_reducible assumption) (by assumption))
        | (unfold kX;exact lk hI hi)
        | (refine ⟨a.length - (i+1),by omega,i+1,?_,aF hI (P:=fun j=>ascB a j) ?_,by omega,rfl⟩
           · exact congrArg (fun z:Int=>(([argS 147 a,.val false [.i .i64 z]],[]):Snap)) (wrapN hi hl)
           · exact mF (l:=a) (i:=i) (by assumption) (by assumption) (by with_reducible assumption))
        | (refine ⟨a.length - (i+1),by omega,i+1,?_,aF hI (P:=fun j=>ascB a j) ?_,by omega,rfl⟩
           · exact congrArg (fun z:Int=>(([argS 147 a,.val false [.i .i64 z]],[]):Snap)) (wrapN hi hl)
           · exact mE (l:=a) (i:=i) (eD (jbO (show decide ((i:Int) > 0)=true by with_reducible assumption)) hi hl) (by assumption) (by assumption) (by assumption)))
  | (have hi:¬ i < a.length:=nltN (by with_reducible assumption)
     first
      | with_reducible exact jb2 _
      | (show IntKind.i64.wrap ((i:Int) - 1) < (a.length:Int);rw [eD (jbO (show decide ((i:Int) > 0)=true by with_reducible assumption)) hi hl];omega)
      | (rw [eD (jbO (show decide ((i:Int) > 0)=true by with_reducible assumption)) hi hl];omega)
      | (rw [eD (jbO (show decide ((i:Int) > 0)=true by with_reducible assumption)) hi hl,jca];omega)
      | exact ⟨_,_,wa.row rfl (by rw [eD (jbO (show decide ((i:Int) > 0)=true by with_reducible assumption)) hi hl,jca];omega),wa.row rfl (by rw [jca];exact hi),rfl⟩
      | exact fF (P:=ascB a) hi (pd (l:=a) (i:=i) (by assumption))
      | exact fF (P:=ascB a) hi (pc (l:=a) (i:=i) (by assumption))
      | exact fF (P:=ascB a) hi (o9 (l:=a) (i:=i) (eD (jbO (show decide ((i:Int) > 0)=true by with_reducible assumption)) hi hl) (show decide ((i:Int) > 0)=true by with_reducible assumption) (by assumption))
      | (unfold kX;exact lk hI hi)
      | (refine ⟨a.length - (i+1),by omega,i+1,?_,aF hI (P:=fun j=>ascB a j) ?_,by omega,rfl⟩
         · exact congrArg (fun z:Int=>(([argS 147 a,.val false [.i .i64 z]],[]):Snap)) (wrapN hi hl)
         · exact mF (l:=a) (i:=i) (by assumption) (by assumption) (by with_reducible assumption))
      | (refine ⟨a.length - (i+1),by omega,i+1,?_,aF hI (P:=fun j=>ascB a j) ?_,by omega,rfl⟩
         · exact congrArg (fun z:Int=>(([argS 147 a,.val false [.i .i64 z]],[]):Snap)) (wrapN hi hl)
         · exact mE (l:=a) (i:=i) (eD (jbO (show decide ((i:Int) > 0)=true by with_reducible assumption)) hi hl) (by assumption) (by assumption) (by assumption)))
  | (show aT _ _;exact rfl)
  | exact absurd (show (!false)=false by with_reducible assumption) (by decide)
  | exact absurd (show (!true)=true by with_reducible assumption) (by decide)
  | skip
theorem xk119:FOk Tryz.prog T 119 (spGB T cV (fun _=>True) tblV):=by
 refine fok (env:=envL [(152,(spSB 9 dA)),(153,(spSB 147 kX)),(88,jb)]) (N:=55) tabT (ac xk152 (ac xk153 (ac ok88 af))) mixed Tryz.func119 rfl Tryz.call119 Tryz.ntmps119 ?_
 rintro args ⟨a,wa,_,rfl⟩ hwf
 have wA:WfD T (.l 126) (.l (a.getD 6 default).rows):=wa.rows (j:=6) rfl
 have hl:=wA.len
 refine ⟨by simp,?_⟩
 clear hwf
 rw [Tryz.results119]
 repeat' first
  | refine And.intro ?_ ?_
  | (intro h;simp only [reduceCtorEq] at h;done)
  | (intro h;rw [h])
  | intro h
 all_goals first
  | (show aa _=true;kernel_rfl)|(show am _ _=true;kernel_rfl)|exact True.intro|exact Or.inr rfl|exact Or.inl rfl
  | exact ⟨_,rfl⟩
  | exact rF (a:=a) (aY (by assumption))
  | exact rE (a:=a) (by assumption)
  | skip
 have hc:dA (a.getD 5 default).rows=true:=aA (by assumption)
 have hr:decide (((a.getD 6 default).rows.length:Int) > 12)=false:=by assumption
 refine ap (Q:=_) [1,3] [1] (fun n st=>∃ i:Nat,st=([.ptr 1 1 0,.val false [.i .i64 (i:Int)]],[(1,(rowC cV a).map fun c=>.val false [c])])∧(∀ j,j < i→rowOk (a.getD 5 default).rows.length (rAt (a.getD 6 default).rows j)=true)∧i≤(a.getD 6 default).rows.length∧n=(a.getD 6 default).rows.length - i) ?_ ?_
 · exact ⟨rfl,(a.getD 6 default).rows.length,0,rfl,nolt _,jbP _,rfl⟩
 rintro n st ⟨i,rfl,hI,hle,rfl⟩
 repeat' first
  | refine And.intro ?_ ?_
  | (intro h;simp only [reduceCtorEq] at h;done)
  | (intro h;rw [h])
  | intro h
 all_goals first
  | (show aa _=true;kernel_rfl)|(show am _ _=true;kernel_rfl)|exact True.intro|exact Or.inr rfl|exact Or.inl rfl
  | with_reducible exact jb2 _
  | (have hi:i < (a.getD 6 default).rows.length:=ltN (by with_reducible assumption)
     first
      | exact ⟨_,rfl⟩
      | with_reducible exact jbO (by with_reducible assumption)
      | (show (Int.toNat (i:Int)) < _;rw [jca];exact hi)
      | exact dQ hi (sA (by assumption))
      | exact dQ hi (j5 (aY (by assumption)))
      | (show aT _ _;exact rfl))
  | (have hi:¬ i < (a.getD 6 default).rows.length:=nltN (by with_reducible assumption)
     exact rD hc hr hI hi)
  | skip
 have hi:i < (a.getD 6 default).rows.length:=ltN (by assumption)
 have wr:WfRow T [.l 3,.l 147] (rAt (a.getD 6 default).rows i):=wA.row rfl (by rw [jca];exact hi)
 have wB:WfD T (.l 3) (.l ((rAt (a.getD 6 default).rows i).getD 0 default).rows):=wr.rows (j:=0) rfl
 have lb:=wB.len
 have wC:WfD T (.l 147) (.l ((rAt (a.getD 6 default).rows i).getD 1 default).rows):=wr.rows (j:=1) rfl
 have lc:=wC.len
 have hrow:=sB (n:=(a.getD 5 default).rows.length) (r:=(rAt (a.getD 6 default).rows i)) (by assumption)
 have hasc:kX ((rAt (a.getD 6 default).rows i).getD 1 default).rows=true:=aA (by assumption)
 refine ap (Q:=_) [1,3,4,5] [1,4] (fun n st=>∃ k:Nat,st=([.ptr 1 1 0,.val false [.i .i64 (i:Int)],.ptr 4 1 0,.val false [.i .i64 (k:Int)]],[(1,(rowC cV a).map fun c=>.val false [c]),(1,(rowC [.l 3,.l 147] (rAt (a.getD 6 default).rows i)).map fun c=>.val false [c])])∧(∀ j,j < k→inR (iAt (rAt ((rAt (a.getD 6 default).rows i).getD 0 default).rows j) 0) (-1000000000) 1000000000=true)∧k≤((rAt (a.getD 6 default).rows i).getD 0 default).rows.length∧n=((rAt (a.getD 6 default).rows i).getD 0 default).rows.length - k) ?_ ?_
 · exact ⟨rfl,((rAt (a.getD 6 default).rows i).getD 0 default).rows.length,0,rfl,nolt _,jbP _,rfl⟩
 rintro n st ⟨k,rfl,kI,kle,rfl⟩
 repeat' first
  | refine And.intro ?_ ?_
  | (intro h;simp only [reduceCtorEq] at h;done)
  | (intro h;rw [h])
  | intro h
 all_goals first
  | (show aa _=true;kernel_rfl)|(show am _ _=true;kernel_rfl)|exact True.intro|exact Or.inr rfl|exact Or.inl rfl
  | with_reducible exact jb2 _
  | (have hk:k < ((rAt (a.getD 6 default).rows i).getD 0 default).rows.length:=ltN (by with_reducible assumption)
     first
      | exact ⟨_,rfl⟩
      | with_reducible exact jbO (by with_reducible assumption)
      | (show (Int.toNat (k:Int)) < _;rw [jca];exact hk)
      | exact dQ hi (sw (bC (P:=fun j=>inR (iAt (rAt ((rAt (a.getD 6 default).rows i).getD 0 default).rows j) 0) (-1000000000) 1000000000) hk (aY (by assumption))))
      | (show aT _ _;exact rfl)
      | (refine ⟨((rAt (a.getD 6 default).rows i).getD 0 default).rows.length - (k+1),by omega,k+1,?_,aF kI (P:=fun j=>inR (iAt (rAt ((rAt (a.getD 6 default).rows i).getD 0 default).rows j) 0) (-1000000000) 1000000000 ) (aA (by assumption)),by omega,rfl⟩
         exact congrArg (fun z:Int=>(([.ptr 1 1 0,.val false [.i .i64 (i:Int)],.ptr 4 1 0,.val false [.i .i64 z]],[(1,(rowC cV a).map fun c=>.val false [c]),(1,(rowC [.l 3,.l 147] (rAt (a.getD 6 default).rows i)).map fun c=>.val false [c])]):Snap)) (wrapN hk lb)))
  | (have hk:¬ k < ((rAt (a.getD 6 default).rows i).getD 0 default).rows.length:=nltN (by with_reducible assumption)
     have hnum:kf ((rAt (a.getD 6 default).rows i).getD 0 default).rows=true:=cG kI hk
     first
      | (refine ⟨(a.getD 6 default).rows.length - (i+1),by omega,i+1,?_,aF hI (P:=fun j=>rowOk (a.getD 5 default).rows.length (rAt (a.getD 6 default).rows j)) ?_,by omega,rfl⟩
         · exact congrArg (fun z:Int=>(([.ptr 1 1 0,.val false [.i .i64 z]],[(1,(rowC cV a).map fun c=>.val false [c])]):Snap)) (wrapN hi hl)
         · exact su hrow hasc hnum)
      | (show aT _ _;exact rfl))
  | skip
theorem xk106:FOk Tryz.prog T 106 (spGB T cV (fun _=>True) tblV):=by
 refine fok (env:=envL [(138,(spSB 9 dA)),(104,jb),(139,(uR T CO befO))]) (N:=77) tabT (ac xk138 (ac ok104 (ac xk139 af))) mixed Tryz.func106 rfl Tryz.call106 Tryz.ntmps106 ?_
 rintro args ⟨a,wa,_,rfl⟩ hwf
 have wA:WfD T (.l 126) (.l (a.getD 6 default).rows):=wa.rows (j:=6) rfl
 have hl:=wA.len
 refine ⟨by simp,?_⟩
 clear hwf
 rw [Tryz.results106]
 repeat' first
  | refine And.intro ?_ ?_
  | (intro h;simp only [reduceCtorEq] at h;done)
  | (intro h;rw [h])
  | intro h
 all_goals first
  | (show aa _=true;kernel_rfl)|(show am _ _=true;kernel_rfl)|exact True.intro|exact Or.inr rfl|exact Or.inl rfl
  | exact ⟨_,rfl⟩
  | exact rF (a:=a) (aY (by assumption))
  | exact rE (a:=a) (by assumption)
  | skip
 have hc:dA (a.getD 5 default).rows=true:=aA (by assumption)
 have hr:decide (((a.getD 6 default).rows.length:Int) > 12)=false:=by assumption
 refine ap (Q:=_) [1,20,21,22] [1] (fun n st=>∃ i:Nat,st=([.ptr 1 1 0,argS 126 (a.getD 6 default).rows,.val false [.i .i64 (a.getD 6 default).rows.length],.val false [.i .i64 (i:Int)]],[(1,(rowC cV a).map fun c=>.val false [c])])∧(∀ j,j < i→rowOk (a.getD 5 default).rows.length (rAt (a.getD 6 default).rows j)=true)∧i≤(a.getD 6 default).rows.length∧n=(a.getD 6 default).rows.length - i) ?_ ?_
 · exact ⟨rfl,(a.getD 6 default).rows.length,0,rfl,nolt _,jbP _,rfl⟩
 rintro n st ⟨i,rfl,hI,hle,rfl⟩
 repeat' first
  | refine And.intro ?_ ?_
  | (intro h;simp only [reduceCtorEq] at h;done)
  | (intro h;rw [h])
  | intro h
 all_goals first
  | (show aa _=true;kernel_rfl)|(show am _ _=true;kernel_rfl)|exact True.intro|exact Or.inr rfl|exact Or.inl rfl
  | with_reducible exact jb2 _
  | (have hi:i < (a.getD 6 default).rows.length:=ltN (by with_reducible assumption)
     first
      | exact ⟨_,rfl⟩
      | with_reducible exact jbO (by with_reducible assumption)
      | (show (Int.toNat (i:Int)) < _;rw [jca];exact hi)
      | exact dQ hi (sA (by assumption))
      | exact dQ hi (j5 (aY (by assumption)))
      | (show aT _ _;exact rfl))
  | (have hi:¬ i < (a.getD 6 default).rows.length:=nltN (by with_reducible assumption)
     exact rD hc hr hI hi)
  | skip
 have hi:i < (a.getD 6 default).rows.length:=ltN (by assumption)
 have wr:WfRow T [.l 3,.l 147] (rAt (a.getD 6 default).rows i):=wA.row rfl (by rw [jca];exact hi)
 have wB:WfD T (.l 3) (.l ((rAt (a.getD 6 default).rows i).getD 0 default).rows):=wr.rows (j:=0) rfl
 have lb:=wB.len
 have wC:WfD T (.l 147) (.l ((rAt (a.getD 6 default).rows i).getD 1 default).rows):=wr.rows (j:=1) rfl
 have lc:=wC.len
 have hrow:=sB (n:=(a.getD 5 default).rows.length) (r:=(rAt (a.getD 6 default).rows i)) (by assumption)

 refine ap (Q:=_) [1,20,21,22,4,34,35,36] [1,4] (fun n st=>∃ k:Nat,st=([.ptr 1 1 0,argS 126 (a.getD 6 default).rows,.val false [.i .i64 (a.getD 6 default).rows.length],.val false [.i .i64 (i:Int)],.ptr 4 1 0,argS 3 ((rAt (a.getD 6 default).rows i).getD 0 default).rows,.val false [.i .i64 ((rAt (a.getD 6 default).rows i).getD 0 default).rows.length],.val false [.i .i64 (k:Int)]],[(1,(rowC cV a).map fun c=>.val false [c]),(1,(rowC [.l 3,.l 147] (rAt (a.getD 6 default).rows i)).map fun c=>.val false [c])])∧(∀ j,j < k→inR (iAt (rAt ((rAt (a.getD 6 default).rows i).getD 0 default).rows j) 0) (-1000000000) 1000000000=true)∧k≤((rAt (a.getD 6 default).rows i).getD 0 default).rows.length∧n=((rAt (a.getD 6 default).rows i).getD 0 default).rows.length - k) ?_ ?_
 · exact ⟨rfl,((rAt (a.getD 6 default).rows i).getD 0 default).rows.length,0,rfl,nolt _,jbP _,rfl⟩
 rintro n st ⟨k,rfl,kI,kle,rfl⟩
 repeat' first
  | refine And.intro ?_ ?_
  | (intro h;simp only [reduceCtorEq] at h;done)
  | (intro h;rw [h])
  | intro h
 all_goals first
  | (show aa _=true;kernel_rfl)|(show am _ _=true;kernel_rfl)|exact True.intro|exact Or.inr rfl|exact Or.inl rfl
  | with_reducible exact jb2 _
  | (have hk:k < ((rAt (a.getD 6 default).rows i).getD 0 default).rows.length:=ltN (by with_reducible assumption)
     first
      | exact ⟨_,rfl⟩
      | with_reducible exact jbO (by with_reducible assumption)
      | (show (Int.toNat (k:Int)) < _;rw [jca];exact hk)
      | exact dQ hi (sw (bC (P:=fun j=>inR (iAt (rAt ((rAt (a.getD 6 default).rows i).getD 0 default).rows j) 0) (-1000000000) 1000000000) hk (aY (by assumption))))
      | (show aT _ _;exact rfl)
      | (refine ⟨((rAt (a.getD 6 default).rows i).getD 0 default).rows.length - (k+1),by omega,k+1,?_,aF kI (P:=fun j=>inR (iAt (rAt ((rAt (a.getD 6 default).rows i).getD 0 default).rows j) 0) (-1000000000) 1000000000 ) (aA (by assumption)),by omega,rfl⟩
         exact congrArg (fun z:Int=>(([.ptr 1 1 0,argS 126 (a.getD 6 default).rows,.val false [.i .i64 (a.getD 6 default).rows.length],.val false [.i .i64 (i:Int)],.ptr 4 1 0,argS 3 ((rAt (a.getD 6 default).rows i).getD 0 default).rows,.val false [.i .i64 ((rAt (a.getD 6 default).rows i).getD 0 default).rows.length],.val false [.i .i64 z]],[(1,(rowC cV a).map fun c=>.val false [c]),(1,(rowC [.l 3,.l 147] (rAt (a.getD 6 default).rows i)).map fun c=>.val false [c])]):Snap)) (wrapN hk lb)))
  | (have hk:¬ k < ((rAt (a.getD 6 default).rows i).getD 0 default).rows.length:=nltN (by with_reducible assumption)
     have hnum:kf ((rAt (a.getD 6 default).rows i).getD 0 default).rows=true:=cG kI hk
     first
      | (fail "next")
      | (show aT _ _;exact rfl))
  | skip
 have hk:¬ k < ((rAt (a.getD 6 default).rows i).getD 0 default).rows.length:=nltN (by with_reducible assumption)
 have hnum:kf ((rAt (a.getD 6 default).rows i).getD 0 default).rows=true:=cG kI hk
 refine ap (Q:=_) [1,20,21,22,4,45,46,47] [1,4] (fun n st=>∃ m:Nat,st=([.ptr 1 1 0,argS 126 (a.getD 6 default).rows,.val false [.i .i64 (a.getD 6 default).rows.length],.val false [.i .i64 (i:Int)],.ptr 4 1 0,argS 147 ((rAt (a.getD 6 default).rows i).getD 1 default).rows,.val false [.i .i64 ((rAt (a.getD 6 default).rows i).getD 1 default).rows.length],.val false [.i .i64 (m:Int)]],[(1,(rowC cV a).map fun c=>.val false [c]),(1,(rowC [.l 3,.l 147] (rAt (a.getD 6 default).rows i)).map fun c=>.val false [c])])∧(∀ j,j < m→ascB ((rAt (a.getD 6 default).rows i).getD 1 default).rows j=true)∧m≤((rAt (a.getD 6 default).rows i).getD 1 default).rows.length∧n=((rAt (a.getD 6 default).rows i).getD 1 default).rows.length - m) ?_ ?_
 · exact ⟨rfl,((rAt (a.getD 6 default).rows i).getD 1 default).rows.length,0,rfl,nolt _,jbP _,rfl⟩
 rintro n st ⟨m,rfl,mI,mle,rfl⟩
 repeat' first
  | refine And.intro ?_ ?_
  | (intro h;simp only [reduceCtorEq] at h;done)
  | (intro h;rw [h])
  | intro h
 all_goals first
  | (show aa _=true;kernel_rfl)|(show am _ _=true;kernel_rfl)|exact True.intro|exact Or.inr rfl|exact Or.inl rfl
  | with_reducible exact jb2 _
  | (have hm:m < ((rAt (a.getD 6 default).rows i).getD 1 default).rows.length:=ltN (by with_reducible assumption)
     first
      | with_reducible exact jbO (by with_reducible assumption)
      | (show (Int.toNat (m:Int)) < _;rw [jca];exact hm)
      | (show IntKind.i64.wrap ((m:Int) - 1) < (((rAt (a.getD 6 default).rows i).getD 1 default).rows.length:Int);rw [eD (jbO (show decide ((m:Int) > 0)=true by with_reducible assumption)) hm lc];omega)
      | (rw [eD (jbO (show decide ((m:Int) > 0)=true by with_reducible assumption)) hm lc];omega)
      | (rw [eD (jbO (show decide ((m:Int) > 0)=true by with_reducible assumption)) hm lc,jca];omega)
      | exact ⟨_,_,wC.row rfl (by rw [eD (jbO (show decide ((m:Int) > 0)=true by with_reducible assumption)) hm lc,jca];omega),wC.row rfl (by rw [jca];exact hm),rfl⟩
      | exact dQ hi (j5 (bC (P:=ascB ((rAt (a.getD 6 default).rows i).getD 1 default).rows) hm (pd (l:=((rAt (a.getD 6 default).rows i).getD 1 default).rows) (i:=m) (by assumption))))
      | exact dQ hi (j5 (bC (P:=ascB ((rAt (a.getD 6 default).rows i).getD 1 default).rows) hm (pc (l:=((rAt (a.getD 6 default).rows i).getD 1 default).rows) (i:=m) (by assumption))))
      | exact dQ hi (j5 (bC (P:=ascB ((rAt (a.getD 6 default).rows i).getD 1 default).rows) hm (o9 (l:=((rAt (a.getD 6 default).rows i).getD 1 default).rows) (i:=m) (eD (jbO (show decide ((m:Int) > 0)=true by with_reducible assumption)) hm lc) (show decide ((m:Int) > 0)=true by with_reducible assumption) (by assumption))))
      | (show aT _ _;exact rfl)
      | (refine ⟨((rAt (a.getD 6 default).rows i).getD 1 default).rows.length - (m+1),by omega,m+1,?_,aF mI (P:=ascB ((rAt (a.getD 6 default).rows i).getD 1 default).rows) (mF (l:=((rAt (a.getD 6 default).rows i).getD 1 default).rows) (i:=m) (by assumption) (by assumption) (by with_reducible assumption)),by omega,rfl⟩
         exact congrArg (fun z:Int=>(([.ptr 1 1 0,argS 126 (a.getD 6 default).rows,.val false [.i .i64 (a.getD 6 default).rows.length],.val false [.i .i64 (i:Int)],.ptr 4 1 0,argS 147 ((rAt (a.getD 6 default).rows i).getD 1 default).rows,.val false [.i .i64 ((rAt (a.getD 6 default).rows i).getD 1 default).rows.length],.val false [.i .i64 z]],[(1,(rowC cV a).map fun c=>.val false [c]),(1,(rowC [.l 3,.l 147] (rAt (a.getD 6 default).rows i)).map fun c=>.val false [c])]):Snap)) (wrapN hm lc))
      | (refine ⟨((rAt (a.getD 6 default).rows i).getD 1 default).rows.length - (m+1),by omega,m+1,?_,aF mI (P:=ascB ((rAt (a.getD 6 default).rows i).getD 1 default).rows) (mE (l:=((rAt (a.getD 6 default).rows i).getD 1 default).rows) (i:=m) (eD (jbO (show decide ((m:Int) > 0)=true by with_reducible assumption)) hm lc) (by assumption) (by assumption) (by assumption)),by omega,rfl⟩
         exact congrArg (fun z:Int=>(([.ptr 1 1 0,argS 126 (a.getD 6 default).rows,.val false [.i .i64 (a.getD 6 default).rows.length],.val false [.i .i64 (i:Int)],.ptr 4 1 0,argS 147 ((rAt (a.getD 6 default).rows i).getD 1 default).rows,.val false [.i .i64 ((rAt (a.getD 6 default).rows i).getD 1 default).rows.length],.val false [.i .i64 z]],[(1,(rowC cV a).map fun c=>.val false [c]),(1,(rowC [.l 3,.l 147] (rAt (a.getD 6 default).rows i)).map fun c=>.val false [c])]):Snap)) (wrapN hm lc)))
  | (have hm:¬ m < ((rAt (a.getD 6 default).rows i).getD 1 default).rows.length:=nltN (by with_reducible assumption)
     have hasc:kX ((rAt (a.getD 6 default).rows i).getD 1 default).rows=true:=cG mI hm
     first
      | (refine ⟨(a.getD 6 default).rows.length - (i+1),by omega,i+1,?_,aF hI (P:=fun j=>rowOk (a.getD 5 default).rows.length (rAt (a.getD 6 default).rows j)) ?_,by omega,rfl⟩
         · exact congrArg (fun z:Int=>(([.ptr 1 1 0,argS 126 (a.getD 6 default).rows,.val false [.i .i64 (a.getD 6 default).rows.length],.val false [.i .i64 z]],[(1,(rowC cV a).map fun c=>.val false [c])]):Snap)) (wrapN hi hl)
         · exact su hrow hasc hnum)
      | (show aT _ _;exact rfl))
  | skip
end Go.Proofs.YtdjfhmghebommaaGreatDoor.Ab
