/- Origins and tables, exactly: printed by a program of this -/
import Derived.Test.YtkpnfbdoaljkpaaGreatDoorCYb
namespace Go.Proofs.YtkpnfbdoaljkpaaGreatDoor.Ab
open Go.RowKit
set_option linter.all false
set_option maxRecDepth 100000
set_option maxHeartbeats 2000000
theorem xk189:FOk Tryz.prog T 189 (yN T CO befO):=by
 refine fok (env:=envL []) (N:=24) tabT ae mixed Tryz.func189 rfl Tryz.call189 Tryz.ntmps189 ?_
 rintro args ⟨a,b,wa,wb,rfl⟩ hwf
 refine ⟨by simp,?_⟩
 clear hwf
 rw [Tryz.results189]
 repeat' first
  | (refine And.intro ?_ ?_)
  | (intro h;simp only [reduceCtorEq] at h;done)
  | (intro h;rw [h])
  | (intro h)
 all_goals first
  | (show ac _=true;kernel_rfl)|(show aj _ _=true;kernel_rfl)|exact True.intro|exact Or.inr rfl|exact Or.inl rfl
  | (refine resB ((?_:_=befO a b));show _=(decide (iAt a 0 < iAt b 0) || (iAt a 0 == iAt b 0 && decide (iAt a 1 < iAt b 1)));simp_all only [jbm,jbp,jbO,jbH,jbL,jbN,jbG,jbI,jbD,jbF,jbs,jbx,jbQ];done)
  | skip
theorem xk161:FOk Tryz.prog T 161 (spGB T cV (fun _=>True) tblV):=by
 refine fok (env:=envL [(188,(spSB 9 eF)),(159,jW),(189,(yN T CO befO))]) (N:=77) tabT (aa xk188 (aa ok159 (aa xk189 ae))) mixed Tryz.func161 rfl Tryz.call161 Tryz.ntmps161 ?_
 rintro args ⟨a,wa,_,rfl⟩ hwf
 have wA:WfD T (.l 131) (.l (a.getD 6 default).rows):=wa.rows (j:=6) rfl
 have hl:=wA.len
 refine ⟨by simp,?_⟩
 clear hwf
 rw [Tryz.results161]
 repeat' first
  | (refine And.intro ?_ ?_)
  | (intro h;simp only [reduceCtorEq] at h;done)
  | (intro h;rw [h])
  | (intro h)
 all_goals first
  | (show ac _=true;kernel_rfl)|(show aj _ _=true;kernel_rfl)|exact True.intro|exact Or.inr rfl|exact Or.inl rfl
  | exact ⟨_,rfl⟩
  | exact v6 (a:=a) (cG (by assumption))
  | exact vZ (a:=a) (by assumption)
  | skip
 have hc:eF (a.getD 5 default).rows=true:=bw (by assumption)
 have hr:decide (((a.getD 6 default).rows.length:Int) > 12)=false:=by assumption
 refine ar (Q:=_) [1,20,21,22] [1] (fun n st=>∃ i:Nat,st=([.ptr 1 1 0,argS 131 (a.getD 6 default).rows,.val false [.i .i64 (a.getD 6 default).rows.length],.val false [.i .i64 (i:Int)]],[(1,(rowC cV a).map fun c=>.val false [c])])∧(∀ j,j < i→rowOk (a.getD 5 default).rows.length (rAt (a.getD 6 default).rows j)=true)∧i≤(a.getD 6 default).rows.length∧n=(a.getD 6 default).rows.length - i) ?_ ?_
 · exact ⟨rfl,(a.getD 6 default).rows.length,0,rfl,nolt _,jaU _,rfl⟩
 rintro n st ⟨i,rfl,hI,hle,rfl⟩
 repeat' first
  | (refine And.intro ?_ ?_)
  | (intro h;simp only [reduceCtorEq] at h;done)
  | (intro h;rw [h])
  | (intro h)
 all_goals first
  | (show ac _=true;kernel_rfl)|(show aj _ _=true;kernel_rfl)|exact True.intro|exact Or.inr rfl|exact Or.inl rfl
  | with_reducible exact ja7 _
  | (have hi:i < (a.getD 6 default).rows.length:=ltN (by with_reducible assumption)
     first
      | exact ⟨_,rfl⟩
      | with_reducible exact jaT (by with_reducible assumption)
      | (show (Int.toNat (i:Int)) < _;rw [jbf];exact hi)
      | exact gJ hi (wO (by assumption))
      | exact gJ hi (kT (cG (by assumption)))
      | (show aL _ _;exact rfl))
  | (have hi:¬ i < (a.getD 6 default).rows.length:=nltN (by with_reducible assumption)
     exact vY hc hr hI hi)
  | skip
 have hi:i < (a.getD 6 default).rows.length:=ltN (by assumption)
 have wr:WfRow T [.l 3,.l 167] (rAt (a.getD 6 default).rows i):=wA.row rfl (by rw [jbf];exact hi)
 have wB:WfD T (.l 3) (.l ((rAt (a.getD 6 default).rows i).getD 0 default).rows):=wr.rows (j:=0) rfl
 have lb:=wB.len
 have wC:WfD T (.l 167) (.l ((rAt (a.getD 6 default).rows i).getD 1 default).rows):=wr.rows (j:=1) rfl
 have lc:=wC.len
 have hrow:=wP (n:=(a.getD 5 default).rows.length) (r:=(rAt (a.getD 6 default).rows i)) (by assumption)

 refine ar (Q:=_) [1,20,21,22,4,34,35,36] [1,4] (fun n st=>∃ k:Nat,st=([.ptr 1 1 0,argS 131 (a.getD 6 default).rows,.val false [.i .i64 (a.getD 6 default).rows.length],.val false [.i .i64 (i:Int)],.ptr 4 1 0,argS 3 ((rAt (a.getD 6 default).rows i).getD 0 default).rows,.val false [.i .i64 ((rAt (a.getD 6 default).rows i).getD 0 default).rows.length],.val false [.i .i64 (k:Int)]],[(1,(rowC cV a).map fun c=>.val false [c]),(1,(rowC [.l 3,.l 167] (rAt (a.getD 6 default).rows i)).map fun c=>.val false [c])])∧(∀ j,j < k→inR (iAt (rAt ((rAt (a.getD 6 default).rows i).getD 0 default).rows j) 0) (-1000000000) 1000000000=true)∧k≤((rAt (a.getD 6 default).rows i).getD 0 default).rows.length∧n=((rAt (a.getD 6 default).rows i).getD 0 default).rows.length - k) ?_ ?_
 · exact ⟨rfl,((rAt (a.getD 6 default).rows i).getD 0 default).rows.length,0,rfl,nolt _,jaU _,rfl⟩
 rintro n st ⟨k,rfl,kI,kle,rfl⟩
 repeat' first
  | (refine And.intro ?_ ?_)
  | (intro h;simp only [reduceCtorEq] at h;done)
  | (intro h;rw [h])
  | (intro h)
 all_goals first
  | (show ac _=true;kernel_rfl)|(show aj _ _=true;kernel_rfl)|exact True.intro|exact Or.inr rfl|exact Or.inl rfl
  | with_reducible exact ja7 _
  | (have hk:k < ((rAt (a.getD 6 default).rows i).getD 0 default).rows.length:=ltN (by with_reducible assumption)
     first
      | exact ⟨_,rfl⟩
      | with_reducible exact jaT (by with_reducible assumption)
      | (show (Int.toNat (k:Int)) < _;rw [jbf];exact hk)
      | exact gJ hi (wN (bY (P:=fun j=>inR (iAt (rAt ((rAt (a.getD 6 default).rows i).getD 0 default).rows j) 0) (-1000000000) 1000000000) hk (cG (by assumption))))
      | (show aL _ _;exact rfl)
      | (refine ⟨((rAt (a.getD 6 default).rows i).getD 0 default).rows.length - (k+1),by omega,k+1,?_,aZ kI (P:=fun j=>inR (iAt (rAt ((rAt (a.getD 6 default).rows i).getD 0 default).rows j) 0) (-1000000000) 1000000000 ) (bw (by assumption)),by omega,rfl⟩
         exact congrArg (fun z:Int=>(([.ptr 1 1 0,argS 131 (a.getD 6 default).rows,.val false [.i .i64 (a.getD 6 default).rows.length],.val false [.i .i64 (i:Int)],.ptr 4 1 0,argS 3 ((rAt (a.getD 6 default).rows i).getD 0 default).rows,.val false [.i .i64 ((rAt (a.getD 6 default).rows i).getD 0 default).rows.length],.val false [.i .i64 z]],[(1,(rowC cV a).map fun c=>.val false [c]),(1,(rowC [.l 3,.l 167] (rAt (a.getD 6 default).rows i)).map fun c=>.val false [c])]):Snap)) (wrapN hk lb)))
  | (have hk:¬ k < ((rAt (a.getD 6 default).rows i).getD 0 default).rows.length:=nltN (by with_reducible assumption)
     have hnum:km ((rAt (a.getD 6 default).rows i).getD 0 default).rows=true:=dt kI hk
     first
      | (fail "next")
      | (show aL _ _;exact rfl))
  | skip
 have hk:¬ k < ((rAt (a.getD 6 default).rows i).getD 0 default).rows.length:=nltN (by with_reducible assumption)
 have hnum:km ((rAt (a.getD 6 default).rows i).getD 0 default).rows=true:=dt kI hk
 refine ar (Q:=_) [1,20,21,22,4,45,46,47] [1,4] (fun n st=>∃ m:Nat,st=([.ptr 1 1 0,argS 131 (a.getD 6 default).rows,.val false [.i .i64 (a.getD 6 default).rows.length],.val false [.i .i64 (i:Int)],.ptr 4 1 0,argS 167 ((rAt (a.getD 6 default).rows i).getD 1 default).rows,.val false [.i .i64 ((rAt (a.getD 6 default).rows i).getD 1 default).rows.length],.val false [.i .i64 (m:Int)]],[(1,(rowC cV a).map fun c=>.val false [c]),(1,(rowC [.l 3,.l 167] (rAt (a.getD 6 default).rows i)).map fun c=>.val false [c])])∧(∀ j,j < m→ascB ((rAt (a.getD 6 default).rows i).getD 1 default).rows j=true)∧m≤((rAt (a.getD 6 default).rows i).getD 1 default).rows.length∧n=((rAt (a.getD 6 default).rows i).getD 1 default).rows.length - m) ?_ ?_
 · exact ⟨rfl,((rAt (a.getD 6 default).rows i).getD 1 default).rows.length,0,rfl,nolt _,jaU _,rfl⟩
 rintro n st ⟨m,rfl,mI,mle,rfl⟩
 repeat' first
  | (refine And.intro ?_ ?_)
  | (intro h;simp only [reduceCtorEq] at h;done)
  | (intro h;rw [h])
  | (intro h)
 all_goals first
  | (show ac _=true;kernel_rfl)|(show aj _ _=true;kernel_rfl)|exact True.intro|exact Or.inr rfl|exact Or.inl rfl
  | with_reducible exact ja7 _
  | (have hm:m < ((rAt (a.getD 6 default).rows i).getD 1 default).rows.length:=ltN (by with_reducible assumption)
     first
      | with_reducible exact jaT (by with_reducible assumption)
      | (show (Int.toNat (m:Int)) < _;rw [jbf];exact hm)
      | (show IntKind.i64.wrap ((m:Int) - 1) < (((rAt (a.getD 6 default).rows i).getD 1 default).rows.length:Int);rw [pr (jaT (show decide ((m:Int) > 0)=true by with_reducible assumption)) hm lc];omega)
      | (rw [pr (jaT (show decide ((m:Int) > 0)=true by with_reducible assumption)) hm lc];omega)
      | (rw [pr (jaT (show decide ((m:Int) > 0)=true by with_reducible assumption)) hm lc,jbf];omega)
      | exact ⟨_,_,wC.row rfl (by rw [pr (jaT (show decide ((m:Int) > 0)=true by with_reducible assumption)) hm lc,jbf];omega),wC.row rfl (by rw [jbf];exact hm),rfl⟩
      | exact gJ hi (kT (bY (P:=ascB ((rAt (a.getD 6 default).rows i).getD 1 default).rows) hm (xO (l:=((rAt (a.getD 6 default).rows i).getD 1 default).rows) (i:=m) (by assumption))))
      | exact gJ hi (kT (bY (P:=ascB ((rAt (a.getD 6 default).rows i).getD 1 default).rows) hm (xN (l:=((rAt (a.getD 6 default).rows i).getD 1 default).rows) (i:=m) (by assumption))))
      | exact gJ hi (kT (bY (P:=ascB ((rAt (a.getD 6 default).rows i).getD 1 default).rows) hm (xM (l:=((rAt (a.getD 6 default).rows i).getD 1 default).rows) (i:=m) (pr (jaT (show decide ((m:Int) > 0)=true by with_reducible assumption)) hm lc) (show decide ((m:Int) > 0)=true by with_reducible assumption) (by assumption))))
      | (show aL _ _;exact rfl)
      | (refine ⟨((rAt (a.getD 6 default).rows i).getD 1 default).rows.length - (m+1),by omega,m+1,?_,aZ mI (P:=ascB ((rAt (a.getD 6 default).rows i).getD 1 default).rows) (uw (l:=((rAt (a.getD 6 default).rows i).getD 1 default).rows) (i:=m) (by assumption) (by assumption) (by with_reducible assumption)),by omega,rfl⟩
         exact congrArg (fun z:Int=>(([.ptr 1 1 0,argS 131 (a.getD 6 default).rows,.val false [.i .i64 (a.getD 6 default).rows.length],.val false [.i .i64 (i:Int)],.ptr 4 1 0,argS 167 ((rAt (a.getD 6 default).rows i).getD 1 default).rows,.val false [.i .i64 ((rAt (a.getD 6 default).rows i).getD 1 default).rows.length],.val false [.i .i64 z]],[(1,(rowC cV a).map fun c=>.val false [c]),(1,(rowC [.l 3,.l 167] (rAt (a.getD 6 default).rows i)).map fun c=>.val false [c])]):Snap)) (wrapN hm lc))
      | (refine ⟨((rAt (a.getD 6 default).rows i).getD 1 default).rows.length - (m+1),by omega,m+1,?_,aZ mI (P:=ascB ((rAt (a.getD 6 default).rows i).getD 1 default).rows) (uv (l:=((rAt (a.getD 6 default).rows i).getD 1 default).rows) (i:=m) (pr (jaT (show decide ((m:Int) > 0)=true by with_reducible assumption)) hm lc) (by assumption) (by assumption) (by assumption)),by omega,rfl⟩
         exact congrArg (fun z:Int=>(([.ptr 1 1 0,argS 131 (a.getD 6 default).rows,.val false [.i .i64 (a.getD 6 default).rows.length],.val false [.i .i64 (i:Int)],.ptr 4 1 0,argS 167 ((rAt (a.getD 6 default).rows i).getD 1 default).rows,.val false [.i .i64 ((rAt (a.getD 6 default).rows i).getD 1 default).rows.length],.val false [.i .i64 z]],[(1,(rowC cV a).map fun c=>.val false [c]),(1,(rowC [.l 3,.l 167] (rAt (a.getD 6 default).rows i)).map fun c=>.val false [c])]):Snap)) (wrapN hm lc)))
  | (have hm:¬ m < ((rAt (a.getD 6 default).rows i).getD 1 default).rows.length:=nltN (by with_reducible assumption)
     have hasc:s5 ((rAt (a.getD 6 default).rows i).getD 1 default).rows=true:=dt mI hm
     first
      | (refine ⟨(a.getD 6 default).rows.length - (i+1),by omega,i+1,?_,aZ hI (P:=fun j=>rowOk (a.getD 5 default).rows.length (rAt (a.getD 6 default).rows j)) ?_,by omega,rfl⟩
         · exact congrArg (fun z:Int=>(([.ptr 1 1 0,argS 131 (a.getD 6 default).rows,.val false [.i .i64 (a.getD 6 default).rows.length],.val false [.i .i64 z]],[(1,(rowC cV a).map fun c=>.val false [c])]):Snap)) (wrapN hi hl)
         · exact wM hrow hasc hnum)
      | (show aL _ _;exact rfl))
  | skip
end Go.Proofs.YtkpnfbdoaljkpaaGreatDoor.Ab
