/- A part. -/
import Derived.Test.YtdjfhmghebommaaGreatDoorDYc
namespace Go.Proofs.YtdjfhmghebommaaGreatDoor.Ab
open Go.RowKit
set_option linter.all false
set_option maxRecDepth 100000
set_option maxHeartbeats 2000000
theorem xk150:FOk Tryz.prog T 150 (spGB T cV (fun _=>True) elK):=by
 refine fok (env:=envL []) (N:=16) tabT af mixed Tryz.func150 rfl Tryz.call150 Tryz.ntmps150 ?_
 rintro args ⟨a,wa,_,rfl⟩ hwf
 refine ⟨by simp,?_⟩
 clear hwf
 rw [Tryz.results150]
 repeat' first
  | refine And.intro ?_ ?_
  | (intro h;simp only [reduceCtorEq] at h;done)
  | (intro h;rw [h])
  | intro h
 all_goals first
  | (show aa _=true;kernel_rfl)|(show am _ _=true;kernel_rfl)|exact True.intro|exact Or.inr rfl|exact Or.inl rfl
  | (refine resB ((?_:_=elK a));show _=(iAt a 0 == 1 || (iAt a 0 == 2 || iAt a 0 == 3));simp_all only [jch,jck,jcJ,jcC,jcG,jcI,jcB,jcD,jcy,jcA,jcn,jcs,jcL];done)
  | skip
theorem yY:FOk Tryz.prog T 114 xL:=by
 refine fok (env:=envL []) (N:=10) tabT af mixed Tryz.func114 rfl Tryz.call114 Tryz.ntmps114 ?_
 rintro args ⟨x,y,rfl⟩ hwf
 refine ⟨by simp,?_⟩
 clear hwf
 rw [Tryz.results114]
 repeat' first
  | refine And.intro ?_ ?_
  | (intro h;simp only [reduceCtorEq] at h;done)
  | (intro h;rw [h])
  | intro h
 all_goals first
  | (show aa _=true;kernel_rfl)|(show am _ _=true;kernel_rfl)|exact True.intro|exact Or.inr rfl|exact Or.inl rfl
  | exact resI (max_T (by assumption))
  | exact resI (max_F (by assumption))
  | skip
theorem uA (n:Nat) (hn:FOk Tryz.prog T 151 (spGI T cV (SmN n) depV)):FOk Tryz.prog T 151 (spGI T cV (SmN (n+1)) depV):=by
 refine fok (env:=envL [(151,(spGI T cV (SmN n) depV)),(114,xL)]) (N:=22) tabT (ac hn (ac yY af)) mixed Tryz.func151 rfl Tryz.call151 Tryz.ntmps151 ?_
 rintro args ⟨a,wa,sm,rfl⟩ hwf
 have wA:WfD T (.l 53) (.l (lst a)):=wa.rows (j:=4) rfl
 have hl:=wA.len
 have hd:csD (rowC cV a)=a:=au wa
 refine ⟨by simp,?_⟩
 clear hwf
 rw [Tryz.results151]
 repeat' first
  | refine And.intro ?_ ?_
  | (intro h;simp only [reduceCtorEq] at h;done)
  | (intro h;rw [h])
  | intro h
 all_goals first
  | (show aa _=true;kernel_rfl)|(show am _ _=true;kernel_rfl)|exact True.intro|exact Or.inr rfl|exact Or.inl rfl
  | skip
 refine ap (Q:=_) [1,3,4] [1] (fun m st=>∃ i:Nat,st=([.ptr 1 1 0,.val false [.i .i64 (maxB i (fun j=>depV (rAt (lst a) j)))],.val false [.i .i64 (i:Int)]],[(1,(rowC cV a).map fun c=>.val false [c])])∧i≤(lst a).length∧m=(lst a).length - i) ?_ ?_
 · exact ⟨rfl,(lst a).length,0,rfl,jbP _,rfl⟩
 rintro m st ⟨i,rfl,hle,rfl⟩
 repeat' first
  | refine And.intro ?_ ?_
  | (intro h;simp only [reduceCtorEq] at h;done)
  | (intro h;rw [h])
  | intro h
 all_goals first
  | (show aa _=true;kernel_rfl)|(show am _ _=true;kernel_rfl)|exact True.intro|exact Or.inr rfl|exact Or.inl rfl
  | with_reducible exact jb2 _
  | (have hi:i < (lst a).length:=ltN (by assumption)
     have wr:WfRow T cV (rAt (lst a) i):=wA.row rfl (by rw [jca];exact hi)
     have hq:csD (rowC cV (rAt (lst a) i))=(rAt (lst a) i):=au wr
     first
      | with_reducible exact jbO (by with_reducible assumption)
      | exact ⟨_,wr,sm.lst hi,rfl⟩
      | exact ⟨_,_,rfl⟩
      | (show IntKind.i64.min≤depV (csD (rowC cV (rAt (lst a) i)));rw [hq];exact (ql (SmM.lst sm.2 hi)).1)
      | (show depV (csD (rowC cV (rAt (lst a) i)))≤IntKind.i64.max;rw [hq];exact (ql (SmM.lst sm.2 hi)).2)
      | (show (i:Int) < _;omega)
      | (show (Int.toNat (i:Int)) < _;rw [jca];exact hi)
      | (show aT _ _;exact rfl)
      | (refine ⟨(lst a).length - (i+1),by omega,i+1,?_,by omega,rfl⟩
         first
          | exact pI (f:=fun y z:Int=>(([.ptr 1 1 0,.val false [.i .i64 y],.val false [.i .i64 z]],[(1,(rowC cV a).map fun c=>.val false [c])]):Snap)) ((congrArg (fun z=>max (maxB i (fun j=>depV (rAt (lst a) j))) (depV z)) hq).trans (cl i _).symm) (wrapN hi hl)
          | (refine pI (f:=fun y z:Int=>(([.ptr 1 1 0,.val false [.i .i64 y],.val false [.i .i64 z]],[(1,(rowC cV a).map fun c=>.val false [c])]):Snap)) (b:=IntKind.i64.wrap (i+1)) ?_ (wrapN hi hl)
             refine (wH _ _ _).trans ?_
             exact (congrArg (fun z=>max (maxB i (fun j=>depV (rAt (lst a) j))) (depV z)) hq).trans (cl i _).symm)))
  | (have hi:¬ i < (lst a).length:=nltN (by assumption)
     show [CV.i .i64 _]=[CV.i .i64 (depV (csD (rowC cV a)))]
     rw [hd]
     exact ug sm.2 hle hi)
  | skip
theorem xf:∀ n,FOk Tryz.prog T 151 (spGI T cV (SmN n) depV):=by
 intro n
 induction n with
 | zero =>
   refine fok (env:=envL []) (N:=22) tabT af mixed Tryz.func151 rfl Tryz.call151 Tryz.ntmps151 ?_
   rintro args ⟨a,wa,sm,rfl⟩ _
   exact absurd sm.1 (jcE _)
 | succ n ih=>exact uA n ih
theorem xk151:FOk Tryz.prog T 151 (spGI T cV SmM depV):=FOk.lift xf (fun args ⟨a,wa,sm,h⟩=>⟨wRow a+1,a,wa,⟨jcO _,sm⟩,h⟩) (fun n=>rfl)
theorem uC (n:Nat) (hn:FOk Tryz.prog T 107 (spGI T cV (SmN n) depV)):FOk Tryz.prog T 107 (spGI T cV (SmN (n+1)) depV):=by
 refine fok (env:=envL [(107,(spGI T cV (SmN n) depV))]) (N:=20) tabT (ac hn af) mixed Tryz.func107 rfl Tryz.call107 Tryz.ntmps107 ?_
 rintro args ⟨a,wa,sm,rfl⟩ hwf
 have wA:WfD T (.l 53) (.l (lst a)):=wa.rows (j:=4) rfl
 have hl:=wA.len
 have hd:csD (rowC cV a)=a:=au wa
 refine ⟨by simp,?_⟩
 clear hwf
 rw [Tryz.results107]
 repeat' first
  | refine And.intro ?_ ?_
  | (intro h;simp only [reduceCtorEq] at h;done)
  | (intro h;rw [h])
  | intro h
 all_goals first
  | (show aa _=true;kernel_rfl)|(show am _ _=true;kernel_rfl)|exact True.intro|exact Or.inr rfl|exact Or.inl rfl
  | skip
 refine ap (Q:=_) [1,3,7,8,9] [1] (fun m st=>∃ i:Nat,st=([.ptr 1 1 0,.val false [.i .i64 (maxB i (fun j=>depV (rAt (lst a) j)))],argS 53 (lst a),.val false [.i .i64 (lst a).length],.val false [.i .i64 (i:Int)]],[(1,(rowC cV a).map fun c=>.val false [c])])∧i≤(lst a).length∧m=(lst a).length - i) ?_ ?_
 · exact ⟨rfl,(lst a).length,0,rfl,jbP _,rfl⟩
 rintro m st ⟨i,rfl,hle,rfl⟩
 repeat' first
  | refine And.intro ?_ ?_
  | (intro h;simp only [reduceCtorEq] at h;done)
  | (intro h;rw [h])
  | intro h
 all_goals first
  | (show aa _=true;kernel_rfl)|(show am _ _=true;kernel_rfl)|exact True.intro|exact Or.inr rfl|exact Or.inl rfl
  | with_reducible exact jb2 _
  | (have hi:i < (lst a).length:=ltN (by assumption)
     have wr:WfRow T cV (rAt (lst a) i):=wA.row rfl (by rw [jca];exact hi)
     have hq:csD (rowC cV (rAt (lst a) i))=(rAt (lst a) i):=au wr
     first
      | with_reducible exact jbO (by with_reducible assumption)
      | exact ⟨_,wr,sm.lst hi,rfl⟩
      | exact ⟨_,_,rfl⟩
      | (show IntKind.i64.min≤depV (csD (rowC cV (rAt (lst a) i)));rw [hq];exact (ql (SmM.lst sm.2 hi)).1)
      | (show depV (csD (rowC cV (rAt (lst a) i)))≤IntKind.i64.max;rw [hq];exact (ql (SmM.lst sm.2 hi)).2)
      | (show (i:Int) < _;omega)
      | (show (Int.toNat (i:Int)) < _;rw [jca];exact hi)
      | (show aT _ _;exact rfl)
      | (refine ⟨(lst a).length - (i+1),by omega,i+1,?_,by omega,rfl⟩
         first
          | exact pI (f:=fun y z:Int=>(([.ptr 1 1 0,.val false [.i .i64 y],argS 53 (lst a),.val false [.i .i64 (lst a).length],.val false [.i .i64 z]],[(1,(rowC cV a).map fun c=>.val false [c])]):Snap)) ((congrArg (fun z=>max (maxB i (fun j=>depV (rAt (lst a) j))) (depV z)) hq).trans (cl i _).symm) (wrapN hi hl)
          | (refine pI (f:=fun y z:Int=>(([.ptr 1 1 0,.val false [.i .i64 y],argS 53 (lst a),.val false [.i .i64 (lst a).length],.val false [.i .i64 z]],[(1,(rowC cV a).map fun c=>.val false [c])]):Snap)) (b:=IntKind.i64.wrap (i+1)) ?_ (wrapN hi hl)
             refine (wH _ _ _).trans ?_
             exact (congrArg (fun z=>max (maxB i (fun j=>depV (rAt (lst a) j))) (depV z)) hq).trans (cl i _).symm)))
  | (have hi:¬ i < (lst a).length:=nltN (by assumption)
     show [CV.i .i64 _]=[CV.i .i64 (depV (csD (rowC cV a)))]
     rw [hd]
     exact ug sm.2 hle hi)
  | skip
theorem xg:∀ n,FOk Tryz.prog T 107 (spGI T cV (SmN n) depV):=by
 intro n
 induction n with
 | zero =>
   refine fok (env:=envL []) (N:=20) tabT af mixed Tryz.func107 rfl Tryz.call107 Tryz.ntmps107 ?_
   rintro args ⟨a,wa,sm,rfl⟩ _
   exact absurd sm.1 (jcE _)
 | succ n ih=>exact uC n ih
theorem xk107:FOk Tryz.prog T 107 (spGI T cV SmM depV):=FOk.lift xg (fun args ⟨a,wa,sm,h⟩=>⟨wRow a+1,a,wa,⟨jcO _,sm⟩,h⟩) (fun n=>rfl)
theorem uB (n:Nat) (hn:FOk Tryz.prog T 86 (spGB T cV (SmN n) okV)):FOk Tryz.prog T 118 (spGB T cV (SmN (n+1)) cx):=by
 refine fok (env:=envL [(150,(spGB T cV (fun _=>True) elK)),(86,(spGB T cV (SmN n) okV)),(151,(spGI T cV SmM depV))]) (N:=36) tabT (ac xk150 (ac hn (ac xk151 af))) mixed Tryz.func118 rfl Tryz.call118 Tryz.ntmps118 ?_
 rintro args ⟨a,wa,sm,rfl⟩ hwf
 have wA:WfD T (.l 53) (.l (lst a)):=wa.rows (j:=4) rfl
 have hl:=wA.len
 have hd:csD (rowC cV a)=a:=au wa
 refine ⟨by simp,?_⟩
 clear hwf
 rw [Tryz.results118]
 repeat' first
  | refine And.intro ?_ ?_
  | (intro h;simp only [reduceCtorEq] at h;done)
  | (intro h;rw [h])
  | intro h
 all_goals first
  | (show aa _=true;kernel_rfl)|(show am _ _=true;kernel_rfl)|exact True.intro|exact Or.inr rfl|exact Or.inl rfl
  | skip
 refine ap (Q:=_) [1,3] [1] (fun m st=>∃ i:Nat,st=([.ptr 1 1 0,.val false [.i .i64 (i:Int)]],[(1,(rowC cV a).map fun c=>.val false [c])])∧(∀ j,j < i→(elK (rAt (lst a) j) && okV (rAt (lst a) j))=true)∧i≤(lst a).length∧m=(lst a).length - i) ?_ ?_
 · exact ⟨rfl,(lst a).length,0,rfl,nolt _,jbP _,rfl⟩
 rintro m st ⟨i,rfl,hI,hle,rfl⟩
 repeat' first
  | refine And.intro ?_ ?_
  | (intro h;simp only [reduceCtorEq] at h;done)
  | (intro h;rw [h])
  | intro h
 all_goals first
  | (show aa _=true;kernel_rfl)|(show am _ _=true;kernel_rfl)|exact True.intro|exact Or.inr rfl|exact Or.inl rfl
  | with_reducible exact jb2 _
  | (have hi:i < (lst a).length:=ltN (by assumption)
     have wr:WfRow T cV (rAt (lst a) i):=wA.row rfl (by rw [jca];exact hi)
     have hq:csD (rowC cV (rAt (lst a) i))=(rAt (lst a) i):=au wr
     first
      | with_reducible exact jbO (by with_reducible assumption)
      | exact ⟨_,wr,trivial,rfl⟩
      | exact ⟨_,wr,sm.lst hi,rfl⟩
      | (show (i:Int) < _;omega)
      | (show (Int.toNat (i:Int)) < _;rw [jca];exact hi)
      | (refine resB ?_
         show false=cx (csD (rowC cV a))
         rw [hd]
         unfold cx
         rw [bC (P:=fun j=>elK (rAt (lst a) j) && okV (rAt (lst a) j)) hi (el_no (by rw [← hq];assumption))]
         rfl)
      | (refine resB ?_
         show false=cx (csD (rowC cV a))
         rw [hd]
         unfold cx
         rw [bC (P:=fun j=>elK (rAt (lst a) j) && okV (rAt (lst a) j)) hi (wP (by rw [← hq];assumption))]
         rfl)
      | (show aT _ _;exact rfl)
      | (refine ⟨(lst a).length - (i+1),by omega,i+1,?_,aF hI (P:=fun j=>elK (rAt (lst a) j) && okV (rAt (lst a) j)) ?_,by omega,rfl⟩
         · exact congrArg (fun z:Int=>(([.ptr 1 1 0,.val false [.i .i64 z]],[(1,(rowC cV a).map fun c=>.val false [c])]):Snap)) (wrapN hi hl)
         · exact jbt (by rw [← hq];assumption) (by rw [← hq];assumption)))
  | (have hi:¬ i < (lst a).length:=nltN (by assumption)
     have hall:allB (lst a).length (fun j=>elK (rAt (lst a) j) && okV (rAt (lst a) j))=true:=cG hI hi
     first
      | exact ⟨_,wa,sm.2,rfl⟩
      | (refine resB ?_
         show _=cx (csD (rowC cV a))
         rw [hd]
         unfold cx
         rw [hall,show decide (((lst a).length:Int)≤8)=true by assumption]
         show decide (depV (csD (rowC cV a))≤3)=decide (depV a≤3)
         rw [hd])
      | (refine resB ?_
         show false=cx (csD (rowC cV a))
         rw [hd]
         unfold cx
         rw [hall,show decide (((lst a).length:Int)≤8)=false by assumption]
         rfl))
  | skip
theorem xc (n:Nat) (hl:FOk Tryz.prog T 118 (spGB T cV (SmN (n+1)) cx)):FOk Tryz.prog T 86 (spGB T cV (SmN (n+1)) okV):=by
 refine fok (env:=envL [(88,jb),(117,(spTB okTxt)),(118,(spGB T cV (SmN (n+1)) cx)),(119,(spGB T cV (fun _=>True) tblV)),(35,spIn)]) (N:=95) tabT (ac ok88 (ac xk117 (ac hl (ac xk119 (ac ok35 af))))) mixed Tryz.func86 rfl Tryz.call86 Tryz.ntmps86 ?_
 rintro args ⟨a,wa,sm,rfl⟩ hwf
 have hd:csD (rowC cV a)=a:=au wa
 have wr:=wa
 refine ⟨by simp,?_⟩
 clear hwf
 rw [Tryz.results86]
 obtain ⟨d0,r0,rfl,w0,wa⟩:=wa.cons'
 obtain ⟨d1,r1,rfl,w1,wa⟩:=wa.cons'
 obtain ⟨d2,r2,rfl,w2,wa⟩:=wa.cons'
 obtain ⟨d3,r3,rfl,w3,wa⟩:=wa.cons'
 obtain ⟨d4,r4,rfl,w4,wa⟩:=wa.cons'
 obtain ⟨d5,r5,rfl,w5,wa⟩:=wa.cons'
 obtain ⟨d6,r6,rfl,w6,wa⟩:=wa.cons'
 obtain rfl:=wa.nil'
 obtain ⟨n0,rfl,_⟩:=w0.int'
 obtain ⟨n1,rfl,_⟩:=w1.int'
 obtain ⟨n2,rfl,_⟩:=w2.int'
 obtain ⟨s3,rfl,_⟩:=w3.str'
 obtain ⟨l4,rfl,_⟩:=w4.sl'
 obtain ⟨l5,rfl,_⟩:=w5.sl'
 obtain ⟨l6,rfl,_⟩:=w6.sl'
 have b56:=w56 sm.2
 clear w0 w1 w2 w3 w4 w5 w6
 by_cases e1:n0=1
 · subst e1
   repeat' first
    | refine And.intro ?_ ?_
    | (intro h;cases h)
    | (intro h;rw [h])
    | intro h
   all_goals first
    | (show aa _=true;kernel_rfl)|(show am _ _=true;kernel_rfl)|exact True.intro|exact Or.inr rfl|exact Or.inl rfl
    | exact ⟨_,rfl⟩
    | exact ⟨_,_,_,rfl⟩
    | exact resB (ov1 rfl (by assumption))
    | exact resB (ov2 rfl b56 (by assumption))
    | exact resB (ov3 rfl (by assumption))
    | exact resB (ov4 rfl (by assumption))
    | exact resB (okV_of (pre1 (oq1 (by assumption)) (oq2 b56 (by assumption)) (oq3 (by assumption)) (oq4 (by assumption))) (rfl))
    | skip
 by_cases e2:n0=2
 · subst e2
   repeat' first
    | refine And.intro ?_ ?_
    | (intro h;cases h)
    | (intro h;rw [h])
    | intro h
   all_goals first
    | (show aa _=true;kernel_rfl)|(show am _ _=true;kernel_rfl)|exact True.intro|exact Or.inr rfl|exact Or.inl rfl
    | exact ⟨_,rfl⟩
    | exact ⟨_,_,_,rfl⟩
    | exact resB (ov1 rfl (by assumption))
    | exact resB (ov2 rfl b56 (by assumption))
    | exact resB (ov4 rfl (by assumption))
    | exact resB (okV_n (k:=2) (by decide) (by assumption))
    | exact resB (okV_of (pre2 (oq1 (by assumption)) (oq2 b56 (by assumption)) (oq4 (by assumption))) (k2y (by assumption)))
    | skip
 by_cases e3:n0=3
 · subst e3
   repeat' first
    | refine And.intro ?_ ?_
    | (intro h;cases h)
    | (intro h;rw [h])
    | intro h
   all_goals first
    | (show aa _=true;kernel_rfl)|(show am _ _=true;kernel_rfl)|exact True.intro|exact Or.inr rfl|exact Or.inl rfl
    | exact ⟨_,rfl⟩
    | exact ⟨_,_,_,rfl⟩
    | exact ⟨_,wr,sm,rfl⟩
    | (refine resB (okV_of (pre3 (oq2 b56 (by assumption)) (oq3 (by assumption)) (oq4 (by assumption))) (k3y (by assumption) ?_));exact congrArg cx hd)
    | exact resB (ov2 rfl b56 (by assumption))
    | exact resB (ov3 rfl (by assumption))
    | exact resB (ov4 rfl (by assumption))
    | exact resB (okV_n (k:=3) (by decide) (by assumption))
    | skip
 by_cases e4:n0=4
 · subst e4
   repeat' first
    | refine And.intro ?_ ?_
    | (intro h;cases h)
    | (intro h;rw [h])
    | intro h
   all_goals first
    | (show aa _=true;kernel_rfl)|(show am _ _=true;kernel_rfl)|exact True.intro|exact Or.inr rfl|exact Or.inl rfl
    | exact ⟨_,rfl⟩
    | exact ⟨_,_,_,rfl⟩
    | exact resB (ov1 rfl (by assumption))
    | exact resB (ov2 rfl b56 (by assumption))
    | exact resB (ov3 rfl (by assumption))
    | exact resB (okV_of (pre4 (oq1 (by assumption)) (oq2 b56 (by assumption)) (oq3 (by assumption))) (k4y (by assumption)))
    | exact resB (okV_of (pre4 (oq1 (by assumption)) (oq2 b56 (by assumption)) (oq3 (by assumption))) (k4n (by assumption)))
    | skip
 by_cases e5:n0=5
 · subst e5
   repeat' first
    | refine And.intro ?_ ?_
    | (intro h;cases h)
    | (intro h;rw [h])
    | intro h
   all_goals first
    | (show aa _=true;kernel_rfl)|(show am _ _=true;kernel_rfl)|exact True.intro|exact Or.inr rfl|exact Or.inl rfl
    | exact ⟨_,rfl⟩
    | exact ⟨_,_,_,rfl⟩
    | exact ⟨_,wr,trivial,rfl⟩
    | (refine resB (okV_of (pre5 (oq1 (by assumption)) (oq3 (by assumption)) (oq4 (by assumption))) (k5y (by assumption) ?_));exact congrArg tblV hd)
    | exact resB (ov1 rfl (by assumption))
    | exact resB (ov3 rfl (by assumption))
    | exact resB (ov4 rfl (by assumption))
    | exact resB (okV_n (k:=5) (by decide) (by assumption))
    | skip
 by_cases e6:n0=6
 · subst e6
   repeat' first
    | refine And.intro ?_ ?_
    | (intro h;cases h)
    | (intro h;rw [h])
    | intro h
   all_goals first
    | (show aa _=true;kernel_rfl)|(show am _ _=true;kernel_rfl)|exact True.intro|exact Or.inr rfl|exact Or.inl rfl
    | exact ⟨_,rfl⟩
    | exact ⟨_,_,_,rfl⟩
    | exact resB (ov1 rfl (by assumption))
    | exact resB (ov2 rfl b56 (by assumption))
    | exact resB (ov3 rfl (by assumption))
    | exact resB (ov4 rfl (by assumption))
    | exact resB (okV_of (pre6 (oq1 (by assumption)) (oq2 b56 (by assumption)) (oq3 (by assumption)) (oq4 (by assumption))) (rfl))
    | skip
 have k1:(n0 == 1)=false:=by simpa using e1
 have k2:(n0 == 2)=false:=by simpa using e2
 have k3:(n0 == 3)=false:=by simpa using e3
 have k4:(n0 == 4)=false:=by simpa using e4
 have k5:(n0 == 5)=false:=by simpa using e5
 have k6:(n0 == 6)=false:=by simpa using e6
 have m2:(n0 != 2)=true:=by simpa [bne] using e2
 have m3:(n0 != 3)=true:=by simpa [bne] using e3
 have m4:(n0 != 4)=true:=by simpa [bne] using e4
 have m5:(n0 != 5)=true:=by simpa [bne] using e5
 repeat' first
  | refine And.intro ?_ ?_
  | (intro h;cases h)
  | (intro h;exact absurd (h.symm.trans k1) Bool.noConfusion)
  | (intro h;exact absurd (h.symm.trans k2) Bool.noConfusion)
  | (intro h;exact absurd (h.symm.trans k3) Bool.noConfusion)
  | (intro h;exact absurd (h.symm.trans k4) Bool.noConfusion)
  | (intro h;exact absurd (h.symm.trans k5) Bool.noConfusion)
  | (intro h;exact absurd (h.symm.trans k6) Bool.noConfusion)
  | (intro h;exact absurd (h.symm.trans m2) Bool.noConfusion)
  | (intro h;exact absurd (h.symm.trans m3) Bool.noConfusion)
  | (intro h;exact absurd (h.symm.trans m4) Bool.noConfusion)
  | (intro h;exact absurd (h.symm.trans m5) Bool.noConfusion)
  | (intro h;rw [h])
  | intro h
 all_goals first
  | (show aa _=true;kernel_rfl)|(show am _ _=true;kernel_rfl)|exact True.intro|exact Or.inr rfl|exact Or.inl rfl
  | exact resB (okV_other ⟨e1,e2,e3,e4,e5,e6⟩)
theorem xj:∀ n,FOk Tryz.prog T 86 (spGB T cV (SmN n) okV)∧FOk Tryz.prog T 118 (spGB T cV (SmN n) cx):=by
 intro n
 induction n with
 | zero =>
   refine ⟨?_,?_⟩
   · refine fok (env:=envL []) (N:=95) tabT af mixed Tryz.func86 rfl Tryz.call86 Tryz.ntmps86 ?_
     rintro args ⟨a,wa,sm,rfl⟩ _
     exact absurd sm.1 (jcE _)
   · refine fok (env:=envL []) (N:=36) tabT af mixed Tryz.func118 rfl Tryz.call118 Tryz.ntmps118 ?_
     rintro args ⟨a,wa,sm,rfl⟩ _
     exact absurd sm.1 (jcE _)
 | succ n ih =>
   have h:=uB n ih.1
   exact ⟨xc n h,h⟩
theorem xk86:FOk Tryz.prog T 86 (spGB T cV SmM okV):=FOk.lift (fun n=>(xj n).1) (fun args ⟨a,wa,sm,h⟩=>⟨wRow a+1,a,wa,⟨jcO _,sm⟩,h⟩) (fun n=>rfl)
theorem xd (n:Nat) (hn:FOk Tryz.prog T 59 (spGB T cV (SmN n) okV)):FOk Tryz.prog T 59 (spGB T cV (SmN (n+1)) okV):=by
 refine fok (env:=envL [(104,jb),(105,(spTB okTxt)),(103,spIn),(106,(spGB T cV (fun _=>True) tblV)),(59,(spGB T cV (SmN n) okV)),(107,(spGI T cV SmM depV))]) (N:=185) tabT (ac ok104 (ac xk105 (ac ok103 (ac xk106 (ac hn (ac xk107 af)))))) mixed Tryz.func59 rfl Tryz.call59 Tryz.ntmps59 ?_
 rintro args ⟨a,wa,sm,rfl⟩ hwf
 have hd:csD (rowC cV a)=a:=au wa
 have wr:=wa
 refine ⟨by simp,?_⟩
 clear hwf
 rw [Tryz.results59]
 obtain ⟨d0,r0,rfl,w0,wa⟩:=wa.cons'
 obtain ⟨d1,r1,rfl,w1,wa⟩:=wa.cons'
 obtain ⟨d2,r2,rfl,w2,wa⟩:=wa.cons'
 obtain ⟨d3,r3,rfl,w3,wa⟩:=wa.cons'
 obtain ⟨d4,r4,rfl,w4,wa⟩:=wa.cons'
 obtain ⟨d5,r5,rfl,w5,wa⟩:=wa.cons'
 obtain ⟨d6,r6,rfl,w6,wa⟩:=wa.cons'
 obtain rfl:=wa.nil'
 obtain ⟨n0,rfl,_⟩:=w0.int'
 obtain ⟨n1,rfl,_⟩:=w1.int'
 obtain ⟨n2,rfl,_⟩:=w2.int'
 obtain ⟨s3,rfl,_⟩:=w3.str'
 obtain ⟨l4,rfl,_⟩:=w4.sl'
 obtain ⟨l5,rfl,_⟩:=w5.sl'
 obtain ⟨l6,rfl,_⟩:=w6.sl'
 have b56:=w56 sm.2
 clear w0 w1 w2 w3 w4 w5 w6
 by_cases e1:n0=1
 · subst e1
   repeat' first
    | refine And.intro ?_ ?_
    | (intro h;cases h)
    | (intro h;rw [h])
    | intro h
   all_goals first
    | (show aa _=true;kernel_rfl)|(show am _ _=true;kernel_rfl)|exact True.intro|exact Or.inr rfl|exact Or.inl rfl
    | exact ⟨_,rfl⟩
    | exact ⟨_,_,_,rfl⟩
    | exact resB (ov1' rfl (by assumption))
    | exact resB (ov2' rfl (by assumption))
    | exact resB (s9 rfl (by assumption))
    | exact resB (ov3' rfl (by assumption))
    | exact resB (ov4' rfl (by assumption))
    | exact resB (okV_of (pre1 (oq1' (by assumption)) (oq2' (by assumption) (by assumption)) (oq3' (by assumption)) (by assumption)) (rfl))
    | skip
 by_cases e2:n0=2
 · subst e2
   repeat' first
    | refine And.intro ?_ ?_
    | (intro h;cases h)
    | (intro h;rw [h])
    | intro h
   all_goals first
    | (show aa _=true;kernel_rfl)|(show am _ _=true;kernel_rfl)|exact True.intro|exact Or.inr rfl|exact Or.inl rfl
    | exact ⟨_,rfl⟩
    | exact ⟨_,_,_,rfl⟩
    | exact resB (ov1' rfl (by assumption))
    | exact resB (ov2' rfl (by assumption))
    | exact resB (s9 rfl (by assumption))
    | exact resB (ov4' rfl (by assumption))
    | exact resB (okV_n (k:=2) (by decide) (by assumption))
    | exact resB (okV_of (pre2 (oq1' (by assumption)) (oq2' (by assumption) (by assumption)) (by assumption)) (k2y (by assumption)))
    | skip
 by_cases e4:n0=4
 · subst e4
   repeat' first
    | refine And.intro ?_ ?_
    | (intro h;cases h)
    | (intro h;rw [h])
    | intro h
   all_goals first
    | (show aa _=true;kernel_rfl)|(show am _ _=true;kernel_rfl)|exact True.intro|exact Or.inr rfl|exact Or.inl rfl
    | exact ⟨_,rfl⟩
    | exact ⟨_,_,_,rfl⟩
    | exact resB (ov1' rfl (by assumption))
    | exact resB (ov2' rfl (by assumption))
    | exact resB (s9 rfl (by assumption))
    | exact resB (ov3' rfl (by assumption))
    | exact resB (okV_of (pre4 (oq1' (by assumption)) (oq2' (by assumption) (by assumption)) (oq3' (by assumption))) (k4y (by assumption)))
    | exact resB (okV_of (pre4 (oq1' (by assumption)) (oq2' (by assumption) (by assumption)) (oq3' (by assumption))) (k4n (by assumption)))
    | skip
 by_cases e5:n0=5
 · subst e5
   repeat' first
    | refine And.intro ?_ ?_
    | (intro h;cases h)
    | (intro h;rw [h])
    | intro h
   all_goals first
    | (show aa _=true;kernel_rfl)|(show am _ _=true;kernel_rfl)|exact True.intro|exact Or.inr rfl|exact Or.inl rfl
    | exact ⟨_,rfl⟩
    | exact ⟨_,_,_,rfl⟩
    | exact ⟨_,wr,trivial,rfl⟩
    | (refine resB (okV_of (pre5 (oq1' (by assumption)) (oq3' (by assumption)) (by assumption)) (k5y (by assumption) ?_));exact congrArg tblV hd)
    | exact resB (ov1' rfl (by assumption))
    | exact resB (ov3' rfl (by assumption))
    | exact resB (ov4' rfl (by assumption))
    | exact resB (okV_n (k:=5) (by decide) (by assumption))
    | skip
 by_cases e6:n0=6
 · subst e6
   repeat' first
    | refine And.intro ?_ ?_
    | (intro h;cases h)
    | (intro h;rw [h])
    | intro h
   all_goals first
    | (show aa _=true;kernel_rfl)|(show am _ _=true;kernel_rfl)|exact True.intro|exact Or.inr rfl|exact Or.inl rfl
    | exact ⟨_,rfl⟩
    | exact ⟨_,_,_,rfl⟩
    | exact resB (ov1' rfl (by assumption))
    | exact resB (ov2' rfl (by assumption))
    | exact resB (s9 rfl (by assumption))
    | exact resB (ov3' rfl (by assumption))
    | exact resB (ov4' rfl (by assumption))
    | exact resB (okV_of (pre6 (oq1' (by assumption)) (oq2' (by assumption) (by assumption)) (oq3' (by assumption)) (by assumption)) (rfl))
    | skip
 by_cases e3:n0=3
 · subst e3
   have wA:WfD T (.l 53) (.l l4):=wr.rows (j:=4) rfl
   have hl:=wA.len
   repeat' first
    | refine And.intro ?_ ?_
    | (intro h;cases h)
    | (intro h;rw [h])
    | intro h
   all_goals first
    | (show aa _=true;kernel_rfl)|(show am _ _=true;kernel_rfl)|exact True.intro|exact Or.inr rfl|exact Or.inl rfl
    | skip
   all_goals (
    refine ap (Q:=_) [1,124,125,126] [1] (fun m st=>∃ i:Nat,st=([.ptr 1 1 0,argS 53 l4,.val false [.i .i64 l4.length],.val false [.i .i64 (i:Int)]],[(1,(rowC cV [.i 3,.i n1,.i n2,.s s3,.l l4,.l l5,.l l6]).map fun c=>.val false [c])])∧(∀ j,j < i→(elK (rAt l4 j) && okV (rAt l4 j))=true)∧i≤l4.length∧m=l4.length - i) ?_ ?_
    · exact ⟨rfl,l4.length,0,rfl,nolt _,jbP _,rfl⟩
    rintro m st ⟨i,rfl,hI,hle,rfl⟩
    repeat' first
     | refine And.intro ?_ ?_
     | (intro h;simp only [reduceCtorEq] at h;done)
     | (intro h;rw [h])
     | intro h
    all_goals first
     | (show aa _=true;kernel_rfl)|(show am _ _=true;kernel_rfl)|exact True.intro|exact Or.inr rfl|exact Or.inl rfl
     | with_reducible exact jb2 _
     | (have hi:i < l4.length:=ltN (by assumption)
        have we:WfRow T cV (rAt l4 i):=wA.row rfl (by rw [jca];exact hi)
        have hq:csD (rowC cV (rAt l4 i))=(rAt l4 i):=au we
        first
         | with_reducible exact jbO (by with_reducible assumption)
         | exact ⟨_,we,sm.lst (i:=i) hi,rfl⟩
         | (show (i:Int) < _;omega)
         | (show (Int.toNat (i:Int)) < _;rw [jca];exact hi)
         | exact resB (wI hi (jby (by assumption) (by assumption) (by assumption)))
         | (have hz:(!okV (rAt l4 i))=true:=(by rw [← hq];assumption)
            exact resB (wI hi (wP hz)))
         | (show aT _ _;exact rfl)
         | (refine ⟨l4.length - (i+1),by omega,i+1,?_,aF hI (P:=fun j=>elK (rAt l4 j) && okV (rAt l4 j)) ?_,by omega,rfl⟩
            · exact congrArg (fun z:Int=>(([.ptr 1 1 0,argS 53 l4,.val false [.i .i64 l4.length],.val false [.i .i64 z]],[(1,(rowC cV [.i 3,.i n1,.i n2,.s s3,.l l4,.l l5,.l l6]).map fun c=>.val false [c])]):Snap)) (wrapN hi hl)
            · first
               | exact o0 (jbx (by assumption)) (by rw [← hq];assumption)
               | exact o0 (jbw (by assumption)) (by rw [← hq];assumption)
               | exact o0 (jbv (by assumption)) (by rw [← hq];assumption)))
     | (have hi:¬ i < l4.length:=nltN (by assumption)
        first
         | exact ⟨_,wr,sm.2,rfl⟩
         | exact resB (okV_n (k:=3) (by decide) (by assumption))
         | exact resB (ov4' rfl (by assumption))
         | exact resB (ov3' rfl (by assumption))
         | exact resB (ov2' rfl (by assumption))
         | exact resB (s9 rfl (by assumption))
         | exact resB (okV_of (pre3 (oq2' (by assumption) (by assumption)) (oq3' (by assumption)) (by assumption)) (k3y (by assumption) (ja0 (by assumption))))
         | (refine resB (okV_of (pre3 (oq2' (by assumption) (by assumption)) (oq3' (by assumption)) (by assumption)) (k3y (by assumption) ?_))
            refine (?_:_=_).trans (ja1 hI hi (by assumption))
            exact congrArg (fun x=>decide (depV x≤3)) hd))
     | skip)
 have k1:(n0 == 1)=false:=by simpa using e1
 have k2:(n0 == 2)=false:=by simpa using e2
 have k3:(n0 == 3)=false:=by simpa using e3
 have k4:(n0 == 4)=false:=by simpa using e4
 have k5:(n0 == 5)=false:=by simpa using e5
 have k6:(n0 == 6)=false:=by simpa using e6
 have m2:(n0 != 2)=true:=by simpa [bne] using e2
 have m3:(n0 != 3)=true:=by simpa [bne] using e3
 have m4:(n0 != 4)=true:=by simpa [bne] using e4
 have m5:(n0 != 5)=true:=by simpa [bne] using e5
 repeat' first
  | refine And.intro ?_ ?_
  | (intro h;cases h)
  | (intro h;exact absurd (h.symm.trans k1) Bool.noConfusion)
  | (intro h;exact absurd (h.symm.trans k2) Bool.noConfusion)
  | (intro h;exact absurd (h.symm.trans k3) Bool.noConfusion)
  | (intro h;exact absurd (h.symm.trans k4) Bool.noConfusion)
  | (intro h;exact absurd (h.symm.trans k5) Bool.noConfusion)
  | (intro h;exact absurd (h.symm.trans k6) Bool.noConfusion)
  | (intro h;exact absurd (h.symm.trans m2) Bool.noConfusion)
  | (intro h;exact absurd (h.symm.trans m3) Bool.noConfusion)
  | (intro h;exact absurd (h.symm.trans m4) Bool.noConfusion)
  | (intro h;exact absurd (h.symm.trans m5) Bool.noConfusion)
  | (intro h;rw [h])
  | intro h
 all_goals first
  | (show aa _=true;kernel_rfl)|(show am _ _=true;kernel_rfl)|exact True.intro|exact Or.inr rfl|exact Or.inl rfl
  | exact resB (okV_other ⟨e1,e2,e3,e4,e5,e6⟩)
theorem yS:∀ n,FOk Tryz.prog T 59 (spGB T cV (SmN n) okV):=by
 intro n
 induction n with
 | zero =>
   refine fok (env:=envL []) (N:=185) tabT af mixed Tryz.func59 rfl Tryz.call59 Tryz.ntmps59 ?_
   rintro args ⟨a,wa,sm,rfl⟩ _
   exact absurd sm.1 (jcE _)
 | succ n ih=>exact xd n ih
theorem xk59:FOk Tryz.prog T 59 (spGB T cV SmM okV):=FOk.lift yS (fun args ⟨a,wa,sm,h⟩=>⟨wRow a+1,a,wa,⟨jcO _,sm⟩,h⟩) (fun n=>rfl)
end Go.Proofs.YtdjfhmghebommaaGreatDoor.Ab
