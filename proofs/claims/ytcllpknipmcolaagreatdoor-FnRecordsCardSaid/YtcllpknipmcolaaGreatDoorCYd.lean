/- Depth and validity of values, exactly: printed by a program of this -/
import Derived.Test.YtcllpknipmcolaaGreatDoorCYc
namespace Go.Proofs.YtcllpknipmcolaaGreatDoor.Ab
open Go.RowKit
set_option linter.all false
set_option maxRecDepth 100000
set_option maxHeartbeats 2000000
theorem xk166:FOk Tryz.prog T 166 (spGB T cV (fun _=>True) elK):=by
 refine fok (env:=envL []) (N:=16) tabT ae mixed Tryz.func166 rfl Tryz.call166 Tryz.ntmps166 ?_
 rintro args ⟨a,wa,_,rfl⟩ hwf
 refine ⟨by simp,?_⟩
 clear hwf
 rw [Tryz.results166]
 repeat' first
  | (refine And.intro ?_ ?_)
  | (intro h;simp only [reduceCtorEq] at h;done)
  | (intro h;rw [h])
  | (intro h)
 all_goals first
  | exact True.intro
  | exact Or.inr rfl
  | (refine resB ((?_:_=elK a));show _=(iAt a 0 == 1 || (iAt a 0 == 2 || iAt a 0 == 3));simp_all only [jcN,jcQ,jdf,jc8,jdc,jde,jc7,jc9,jc4,jc6,jcT,jcY,jdh];done)
theorem xk94:FOk Tryz.prog T 94 rT:=by
 refine fok (env:=envL []) (N:=10) tabT ae mixed Tryz.func94 rfl Tryz.call94 Tryz.ntmps94 ?_
 rintro args ⟨x,y,rfl⟩ hwf
 refine ⟨by simp,?_⟩
 clear hwf
 rw [Tryz.results94]
 repeat' first
  | (refine And.intro ?_ ?_)
  | (intro h;simp only [reduceCtorEq] at h;done)
  | (intro h;rw [h])
  | (intro h)
 all_goals first
  | exact True.intro
  | exact Or.inr rfl
  | exact resI (max_T (by assumption))
  | exact resI (max_F (by assumption))
theorem uF (n:Nat) (hn:FOk Tryz.prog T 167 (spGI T cV (SmN n) depV)):FOk Tryz.prog T 167 (spGI T cV (SmN (n+1)) depV):=by
 refine fok (env:=envL [(167,(spGI T cV (SmN n) depV)),(94,rT)]) (N:=22) tabT (aa hn (aa xk94 ae)) mixed Tryz.func167 rfl Tryz.call167 Tryz.ntmps167 ?_
 rintro args ⟨a,wa,sm,rfl⟩ hwf
 have wA:WfD T (.l 57) (.l (lst a)):=wa.rows (j:=4) rfl
 have hl:=wA.len
 have hd:csD (rowC cV a)=a:=aw wa
 refine ⟨by simp,?_⟩
 clear hwf
 rw [Tryz.results167]
 repeat' first
  | (refine And.intro ?_ ?_)
  | (intro h;simp only [reduceCtorEq] at h;done)
  | (intro h;rw [h])
  | (intro h)
 all_goals first
  | skip
 refine am (Q:=_) [1,3,4] [1] (fun m st=>∃ i:Nat,st=([.ptr 1 1 0,.val false [.i .i64 (maxB i (fun j=>depV (rAt (lst a) j)))],.val false [.i .i64 (i:Int)]],[(1,(rowC cV a).map fun c=>.val false [c])])∧i≤(lst a).length∧m=(lst a).length - i) ?_ ?_
 · exact ⟨rfl,(lst a).length,0,rfl,jcl _,rfl⟩
 rintro m st ⟨i,rfl,hle,rfl⟩
 repeat' first
  | (refine And.intro ?_ ?_)
  | (intro h;simp only [reduceCtorEq] at h;done)
  | (intro h;rw [h])
  | (intro h)
 all_goals first
  | exact True.intro
  | exact Or.inr rfl
  | with_reducible exact jcy _
  | (have hi:i < (lst a).length:=ltN (by assumption)
     have wr:WfRow T cV (rAt (lst a) i):=wA.row rfl (by rw [jcG];exact hi)
     have hq:csD (rowC cV (rAt (lst a) i))=(rAt (lst a) i):=aw wr
     first
      | with_reducible exact jck (by with_reducible assumption)
      | exact ⟨_,wr,sm.lst hi,rfl⟩
      | exact ⟨_,_,rfl⟩
      | (show aV _ _;exact rfl)
      | (refine ⟨(lst a).length - (i+1),by omega,i+1,?_,by omega,rfl⟩
         first
          | exact pB (f:=fun y z:Int=>(([.ptr 1 1 0,.val false [.i .i64 y],.val false [.i .i64 z]],[(1,(rowC cV a).map fun c=>.val false [c])]):Snap)) ((congrArg (fun z=>max (maxB i (fun j=>depV (rAt (lst a) j))) (depV z)) hq).trans (ck i _).symm) (wrapN hi hl)
          | (refine pB (f:=fun y z:Int=>(([.ptr 1 1 0,.val false [.i .i64 y],.val false [.i .i64 z]],[(1,(rowC cV a).map fun c=>.val false [c])]):Snap)) (b:=IntKind.i64.wrap (i+1)) ?_ (wrapN hi hl)
             refine (w8 _ _ _).trans ?_
             exact (congrArg (fun z=>max (maxB i (fun j=>depV (rAt (lst a) j))) (depV z)) hq).trans (ck i _).symm)))
  | (have hi:¬ i < (lst a).length:=nltN (by assumption)
     show [CV.i .i64 _]=[CV.i .i64 (depV (csD (rowC cV a)))]
     rw [hd]
     exact uc sm.2 hle hi)
theorem xD:∀ n,FOk Tryz.prog T 167 (spGI T cV (SmN n) depV):=by
 intro n
 induction n with
 | zero =>
   refine fok (env:=envL []) (N:=22) tabT ae mixed Tryz.func167 rfl Tryz.call167 Tryz.ntmps167 ?_
   rintro args ⟨a,wa,sm,rfl⟩ _
   exact absurd sm.1 (jda _)
 | succ n ih=>exact uF n ih
theorem xk167:FOk Tryz.prog T 167 (spGI T cV SmM depV):=FOk.lift xD (fun args ⟨a,wa,sm,h⟩=>⟨wRow a+1,a,wa,⟨jdk _,sm⟩,h⟩) (fun n=>rfl)
theorem xA (n:Nat) (hn:FOk Tryz.prog T 58 (spGI T cV (SmN n) depV)):FOk Tryz.prog T 58 (spGI T cV (SmN (n+1)) depV):=by
 refine fok (env:=envL [(58,(spGI T cV (SmN n) depV))]) (N:=20) tabT (aa hn ae) mixed Tryz.func58 rfl Tryz.call58 Tryz.ntmps58 ?_
 rintro args ⟨a,wa,sm,rfl⟩ hwf
 have wA:WfD T (.l 57) (.l (lst a)):=wa.rows (j:=4) rfl
 have hl:=wA.len
 have hd:csD (rowC cV a)=a:=aw wa
 refine ⟨by simp,?_⟩
 clear hwf
 rw [Tryz.results58]
 repeat' first
  | (refine And.intro ?_ ?_)
  | (intro h;simp only [reduceCtorEq] at h;done)
  | (intro h;rw [h])
  | (intro h)
 all_goals first
  | skip
 refine am (Q:=_) [1,3,7,8,9] [1] (fun m st=>∃ i:Nat,st=([.ptr 1 1 0,.val false [.i .i64 (maxB i (fun j=>depV (rAt (lst a) j)))],argS 57 (lst a),.val false [.i .i64 (lst a).length],.val false [.i .i64 (i:Int)]],[(1,(rowC cV a).map fun c=>.val false [c])])∧i≤(lst a).length∧m=(lst a).length - i) ?_ ?_
 · exact ⟨rfl,(lst a).length,0,rfl,jcl _,rfl⟩
 rintro m st ⟨i,rfl,hle,rfl⟩
 repeat' first
  | (refine And.intro ?_ ?_)
  | (intro h;simp only [reduceCtorEq] at h;done)
  | (intro h;rw [h])
  | (intro h)
 all_goals first
  | exact True.intro
  | exact Or.inr rfl
  | with_reducible exact jcy _
  | (have hi:i < (lst a).length:=ltN (by assumption)
     have wr:WfRow T cV (rAt (lst a) i):=wA.row rfl (by rw [jcG];exact hi)
     have hq:csD (rowC cV (rAt (lst a) i))=(rAt (lst a) i):=aw wr
     first
      | with_reducible exact jck (by with_reducible assumption)
      | exact ⟨_,wr,sm.lst hi,rfl⟩
      | (show IntKind.i64.min≤depV (csD (rowC cV (rAt (lst a) i)));rw [hq];exact (xn (SmM.lst sm.2 hi)).1)
      | (show depV (csD (rowC cV (rAt (lst a) i)))≤IntKind.i64.max;rw [hq];exact (xn (SmM.lst sm.2 hi)).2)
      | (show aV _ _;exact rfl)
      | (refine ⟨(lst a).length - (i+1),by omega,i+1,?_,by omega,rfl⟩
         first
          | exact pB (f:=fun y z:Int=>(([.ptr 1 1 0,.val false [.i .i64 y],argS 57 (lst a),.val false [.i .i64 (lst a).length],.val false [.i .i64 z]],[(1,(rowC cV a).map fun c=>.val false [c])]):Snap)) ((congrArg (fun z=>max (maxB i (fun j=>depV (rAt (lst a) j))) (depV z)) hq).trans (ck i _).symm) (wrapN hi hl)
          | (refine pB (f:=fun y z:Int=>(([.ptr 1 1 0,.val false [.i .i64 y],argS 57 (lst a),.val false [.i .i64 (lst a).length],.val false [.i .i64 z]],[(1,(rowC cV a).map fun c=>.val false [c])]):Snap)) (b:=IntKind.i64.wrap (i+1)) ?_ (wrapN hi hl)
             refine (w8 _ _ _).trans ?_
             exact (congrArg (fun z=>max (maxB i (fun j=>depV (rAt (lst a) j))) (depV z)) hq).trans (ck i _).symm)))
  | (have hi:¬ i < (lst a).length:=nltN (by assumption)
     show [CV.i .i64 _]=[CV.i .i64 (depV (csD (rowC cV a)))]
     rw [hd]
     exact uc sm.2 hle hi)
theorem zv:∀ n,FOk Tryz.prog T 58 (spGI T cV (SmN n) depV):=by
 intro n
 induction n with
 | zero =>
   refine fok (env:=envL []) (N:=20) tabT ae mixed Tryz.func58 rfl Tryz.call58 Tryz.ntmps58 ?_
   rintro args ⟨a,wa,sm,rfl⟩ _
   exact absurd sm.1 (jda _)
 | succ n ih=>exact xA n ih
theorem xk58:FOk Tryz.prog T 58 (spGI T cV SmM depV):=FOk.lift zv (fun args ⟨a,wa,sm,h⟩=>⟨wRow a+1,a,wa,⟨jdk _,sm⟩,h⟩) (fun n=>rfl)
theorem uG (n:Nat) (hn:FOk Tryz.prog T 82 (spGB T cV (SmN n) okV)):FOk Tryz.prog T 124 (spGB T cV (SmN (n+1)) cx):=by
 refine fok (env:=envL [(166,(spGB T cV (fun _=>True) elK)),(82,(spGB T cV (SmN n) okV)),(167,(spGI T cV SmM depV))]) (N:=36) tabT (aa xk166 (aa hn (aa xk167 ae))) mixed Tryz.func124 rfl Tryz.call124 Tryz.ntmps124 ?_
 rintro args ⟨a,wa,sm,rfl⟩ hwf
 have wA:WfD T (.l 57) (.l (lst a)):=wa.rows (j:=4) rfl
 have hl:=wA.len
 have hd:csD (rowC cV a)=a:=aw wa
 refine ⟨by simp,?_⟩
 clear hwf
 rw [Tryz.results124]
 repeat' first
  | (refine And.intro ?_ ?_)
  | (intro h;simp only [reduceCtorEq] at h;done)
  | (intro h;rw [h])
  | (intro h)
 all_goals first
  | skip
 refine am (Q:=_) [1,3] [1] (fun m st=>∃ i:Nat,st=([.ptr 1 1 0,.val false [.i .i64 (i:Int)]],[(1,(rowC cV a).map fun c=>.val false [c])])∧(∀ j,j < i→(elK (rAt (lst a) j) && okV (rAt (lst a) j))=true)∧i≤(lst a).length∧m=(lst a).length - i) ?_ ?_
 · exact ⟨rfl,(lst a).length,0,rfl,nolt _,jcl _,rfl⟩
 rintro m st ⟨i,rfl,hI,hle,rfl⟩
 repeat' first
  | (refine And.intro ?_ ?_)
  | (intro h;simp only [reduceCtorEq] at h;done)
  | (intro h;rw [h])
  | (intro h)
 all_goals first
  | exact True.intro
  | exact Or.inr rfl
  | with_reducible exact jcy _
  | (have hi:i < (lst a).length:=ltN (by assumption)
     have wr:WfRow T cV (rAt (lst a) i):=wA.row rfl (by rw [jcG];exact hi)
     have hq:csD (rowC cV (rAt (lst a) i))=(rAt (lst a) i):=aw wr
     first
      | with_reducible exact jck (by with_reducible assumption)
      | exact ⟨_,wr,trivial,rfl⟩
      | exact ⟨_,wr,sm.lst hi,rfl⟩
      | (refine resB ?_
         show false=cx (csD (rowC cV a))
         rw [hd]
         unfold cx
         rw [bI (P:=fun j=>elK (rAt (lst a) j) && okV (rAt (lst a) j)) hi (el_no (by rw [← hq];assumption))]
         rfl)
      | (refine resB ?_
         show false=cx (csD (rowC cV a))
         rw [hd]
         unfold cx
         rw [bI (P:=fun j=>elK (rAt (lst a) j) && okV (rAt (lst a) j)) hi (xj (by rw [← hq];assumption))]
         rfl)
      | (show aV _ _;exact rfl)
      | (refine ⟨(lst a).length - (i+1),by omega,i+1,?_,aJ hI (P:=fun j=>elK (rAt (lst a) j) && okV (rAt (lst a) j)) ?_,by omega,rfl⟩
         · exact congrArg (fun z:Int=>(([.ptr 1 1 0,.val false [.i .i64 z]],[(1,(rowC cV a).map fun c=>.val false [c])]):Snap)) (wrapN hi hl)
         · exact jbQ (by rw [← hq];assumption) (by rw [← hq];assumption)))
  | (have hi:¬ i < (lst a).length:=nltN (by assumption)
     have hall:allB (lst a).length (fun j=>elK (rAt (lst a) j) && okV (rAt (lst a) j))=true:=cD hI hi
     first
      | exact ⟨_,wa,sm.2,rfl⟩
      | (refine resB ?_
         show _=cx (csD (rowC cV a))
         rw [hd]
         unfold cx
         rw [hall,show decide (((lst a).length:Int)≤8)=true by assumption]
         show decide (depV (csD (rowC cV a))≤3)=decide (depV a≤3)
         rw [hd])
      | (refine resB ?_
         show false=cx (csD (rowC cV a))
         rw [hd]
         unfold cx
         rw [hall,show decide (((lst a).length:Int)≤8)=false by assumption]
         rfl))
theorem xy (n:Nat) (hl:FOk Tryz.prog T 124 (spGB T cV (SmN (n+1)) cx)):FOk Tryz.prog T 82 (spGB T cV (SmN (n+1)) okV):=by
 refine fok (env:=envL [(83,iU),(123,(spTB okTxt)),(124,(spGB T cV (SmN (n+1)) cx)),(125,(spGB T cV (fun _=>True) tblV)),(126,spIn)]) (N:=95) tabT (aa ok83 (aa zE (aa hl (aa xk125 (aa ok126 ae))))) mixed Tryz.func82 rfl Tryz.call82 Tryz.ntmps82 ?_
 rintro args ⟨a,wa,sm,rfl⟩ hwf
 have hd:csD (rowC cV a)=a:=aw wa
 have wr:=wa
 refine ⟨by simp,?_⟩
 clear hwf
 rw [Tryz.results82]
 obtain ⟨d0,r0,rfl,w0,wa⟩:=wa.cons'
 obtain ⟨d1,r1,rfl,w1,wa⟩:=wa.cons'
 obtain ⟨d2,r2,rfl,w2,wa⟩:=wa.cons'
 obtain ⟨d3,r3,rfl,w3,wa⟩:=wa.cons'
 obtain ⟨d4,r4,rfl,w4,wa⟩:=wa.cons'
 obtain ⟨d5,r5,rfl,w5,wa⟩:=wa.cons'
 obtain ⟨d6,r6,rfl,w6,wa⟩:=wa.cons'
 obtain rfl:=wa.nil'
 obtain ⟨n0,rfl,_⟩:=w0.int'
 obtain ⟨n1,rfl,_⟩:=w1.int'
 obtain ⟨n2,rfl,_⟩:=w2.int'
 obtain ⟨s3,rfl,_⟩:=w3.str'
 obtain ⟨l4,rfl,_⟩:=w4.sl'
 obtain ⟨l5,rfl,_⟩:=w5.sl'
 obtain ⟨l6,rfl,_⟩:=w6.sl'
 have b56:=w56 sm.2
 clear w0 w1 w2 w3 w4 w5 w6
 by_cases e1:n0=1
 · subst e1
   repeat' first
    | (refine And.intro ?_ ?_)
    | (intro h;cases h)
    | (intro h;rw [h])
    | (intro h)
   all_goals first
    | exact True.intro
    | exact Or.inr rfl
    | exact ⟨_,rfl⟩
    | exact resB (ov1 rfl (by assumption))
    | exact resB (ov2 rfl b56 (by assumption))
    | exact resB (ov3 rfl (by assumption))
    | exact resB (ov4 rfl (by assumption))
    | exact resB (okV_of (pre1 (oq1 (by assumption)) (oq2 b56 (by assumption)) (oq3 (by assumption)) (oq4 (by assumption))) (rfl))
 by_cases e2:n0=2
 · subst e2
   repeat' first
    | (refine And.intro ?_ ?_)
    | (intro h;cases h)
    | (intro h;rw [h])
    | (intro h)
   all_goals first
    | exact True.intro
    | exact Or.inr rfl
    | exact ⟨_,rfl⟩
    | exact resB (ov1 rfl (by assumption))
    | exact resB (ov2 rfl b56 (by assumption))
    | exact resB (ov4 rfl (by assumption))
    | exact resB (okV_n (k:=2) (by decide) (by assumption))
    | exact resB (okV_of (pre2 (oq1 (by assumption)) (oq2 b56 (by assumption)) (oq4 (by assumption))) (k2y (by assumption)))
 by_cases e3:n0=3
 · subst e3
   repeat' first
    | (refine And.intro ?_ ?_)
    | (intro h;cases h)
    | (intro h;rw [h])
    | (intro h)
   all_goals first
    | exact True.intro
    | exact Or.inr rfl
    | exact ⟨_,wr,sm,rfl⟩
    | (refine resB (okV_of (pre3 (oq2 b56 (by assumption)) (oq3 (by assumption)) (oq4 (by assumption))) (k3y (by assumption) ?_));exact congrArg cx hd)
    | exact resB (ov2 rfl b56 (by assumption))
    | exact resB (ov3 rfl (by assumption))
    | exact resB (ov4 rfl (by assumption))
    | exact resB (okV_n (k:=3) (by decide) (by assumption))
 by_cases e4:n0=4
 · subst e4
   repeat' first
    | (refine And.intro ?_ ?_)
    | (intro h;cases h)
    | (intro h;rw [h])
    | (intro h)
   all_goals first
    | exact True.intro
    | exact Or.inr rfl
    | exact ⟨_,rfl⟩
    | exact resB (ov1 rfl (by assumption))
    | exact resB (ov2 rfl b56 (by assumption))
    | exact resB (ov3 rfl (by assumption))
    | exact resB (okV_of (pre4 (oq1 (by assumption)) (oq2 b56 (by assumption)) (oq3 (by assumption))) (k4y (by assumption)))
    | exact resB (okV_of (pre4 (oq1 (by assumption)) (oq2 b56 (by assumption)) (oq3 (by assumption))) (k4n (by assumption)))
 by_cases e5:n0=5
 · subst e5
   repeat' first
    | (refine And.intro ?_ ?_)
    | (intro h;cases h)
    | (intro h;rw [h])
    | (intro h)
   all_goals first
    | exact True.intro
    | exact Or.inr rfl
    | exact ⟨_,wr,trivial,rfl⟩
    | (refine resB (okV_of (pre5 (oq1 (by assumption)) (oq3 (by assumption)) (oq4 (by assumption))) (k5y (by assumption) ?_));exact congrArg tblV hd)
    | exact resB (ov1 rfl (by assumption))
    | exact resB (ov3 rfl (by assumption))
    | exact resB (ov4 rfl (by assumption))
    | exact resB (okV_n (k:=5) (by decide) (by assumption))
 by_cases e6:n0=6
 · subst e6
   repeat' first
    | (refine And.intro ?_ ?_)
    | (intro h;cases h)
    | (intro h;rw [h])
    | (intro h)
   all_goals first
    | exact True.intro
    | exact Or.inr rfl
    | exact ⟨_,_,_,rfl⟩
    | exact resB (ov1 rfl (by assumption))
    | exact resB (ov2 rfl b56 (by assumption))
    | exact resB (ov3 rfl (by assumption))
    | exact resB (ov4 rfl (by assumption))
    | exact resB (okV_of (pre6 (oq1 (by assumption)) (oq2 b56 (by assumption)) (oq3 (by assumption)) (oq4 (by assumption))) (rfl))
 have k1:(n0 == 1)=false:=by simpa using e1
 have k2:(n0 == 2)=false:=by simpa using e2
 have k3:(n0 == 3)=false:=by simpa using e3
 have k4:(n0 == 4)=false:=by simpa using e4
 have k5:(n0 == 5)=false:=by simpa using e5
 have k6:(n0 == 6)=false:=by simpa using e6
 have m2:(n0 != 2)=true:=by simpa [bne] using e2
 have m3:(n0 != 3)=true:=by simpa [bne] using e3
 have m4:(n0 != 4)=true:=by simpa [bne] using e4
 have m5:(n0 != 5)=true:=by simpa [bne] using e5
 repeat' first
  | (refine And.intro ?_ ?_)
  | (intro h;cases h)
  | (intro h;exact absurd (h.symm.trans k1) Bool.noConfusion)
  | (intro h;exact absurd (h.symm.trans k2) Bool.noConfusion)
  | (intro h;exact absurd (h.symm.trans k3) Bool.noConfusion)
  | (intro h;exact absurd (h.symm.trans k4) Bool.noConfusion)
  | (intro h;exact absurd (h.symm.trans k5) Bool.noConfusion)
  | (intro h;exact absurd (h.symm.trans k6) Bool.noConfusion)
  | (intro h;exact absurd (h.symm.trans m2) Bool.noConfusion)
  | (intro h;exact absurd (h.symm.trans m3) Bool.noConfusion)
  | (intro h;exact absurd (h.symm.trans m4) Bool.noConfusion)
  | (intro h;exact absurd (h.symm.trans m5) Bool.noConfusion)
  | (intro h;rw [h])
  | (intro h)
 all_goals first
  | exact True.intro
  | exact Or.inr rfl
  | exact resB (okV_other ⟨e1,e2,e3,e4,e5,e6⟩)
theorem xG:∀ n,FOk Tryz.prog T 82 (spGB T cV (SmN n) okV)∧FOk Tryz.prog T 124 (spGB T cV (SmN n) cx):=by
 intro n
 induction n with
 | zero =>
   refine ⟨?_,?_⟩
   · refine fok (env:=envL []) (N:=95) tabT ae mixed Tryz.func82 rfl Tryz.call82 Tryz.ntmps82 ?_
     rintro args ⟨a,wa,sm,rfl⟩ _
     exact absurd sm.1 (jda _)
   · refine fok (env:=envL []) (N:=36) tabT ae mixed Tryz.func124 rfl Tryz.call124 Tryz.ntmps124 ?_
     rintro args ⟨a,wa,sm,rfl⟩ _
     exact absurd sm.1 (jda _)
 | succ n ih =>
   have h:=uG n ih.1
   exact ⟨xy n h,h⟩
theorem xk82:FOk Tryz.prog T 82 (spGB T cV SmM okV):=FOk.lift (fun n=>(xG n).1) (fun args ⟨a,wa,sm,h⟩=>⟨wRow a+1,a,wa,⟨jdk _,sm⟩,h⟩) (fun n=>rfl)
theorem xC (n:Nat) (hn:FOk Tryz.prog T 25 (spGB T cV (SmN n) okV)):FOk Tryz.prog T 25 (spGB T cV (SmN (n+1)) okV):=by
 refine fok (env:=envL [(54,iU),(56,(spTB okTxt)),(53,spIn),(57,(spGB T cV (fun _=>True) tblV)),(25,(spGB T cV (SmN n) okV)),(58,(spGI T cV SmM depV))]) (N:=185) tabT (aa ok54 (aa xk56 (aa ok53 (aa xk57 (aa hn (aa xk58 ae)))))) mixed Tryz.func25 rfl Tryz.call25 Tryz.ntmps25 ?_
 rintro args ⟨a,wa,sm,rfl⟩ hwf
 have hd:csD (rowC cV a)=a:=aw wa
 have wr:=wa
 refine ⟨by simp,?_⟩
 clear hwf
 rw [Tryz.results25]
 obtain ⟨d0,r0,rfl,w0,wa⟩:=wa.cons'
 obtain ⟨d1,r1,rfl,w1,wa⟩:=wa.cons'
 obtain ⟨d2,r2,rfl,w2,wa⟩:=wa.cons'
 obtain ⟨d3,r3,rfl,w3,wa⟩:=wa.cons'
 obtain ⟨d4,r4,rfl,w4,wa⟩:=wa.cons'
 obtain ⟨d5,r5,rfl,w5,wa⟩:=wa.cons'
 obtain ⟨d6,r6,rfl,w6,wa⟩:=wa.cons'
 obtain rfl:=wa.nil'
 obtain ⟨n0,rfl,_⟩:=w0.int'
 obtain ⟨n1,rfl,_⟩:=w1.int'
 obtain ⟨n2,rfl,_⟩:=w2.int'
 obtain ⟨s3,rfl,_⟩:=w3.str'
 obtain ⟨l4,rfl,_⟩:=w4.sl'
 obtain ⟨l5,rfl,_⟩:=w5.sl'
 obtain ⟨l6,rfl,_⟩:=w6.sl'
 have b56:=w56 sm.2
 clear w0 w1 w2 w3 w4 w5 w6
 by_cases e1:n0=1
 · subst e1
   repeat' first
    | (refine And.intro ?_ ?_)
    | (intro h;cases h)
    | (intro h;rw [h])
    | (intro h)
   all_goals first
    | exact True.intro
    | exact Or.inr rfl
    | exact ⟨_,rfl⟩
    | exact resB (ov1' rfl (by assumption))
    | exact resB (ov2' rfl (by assumption))
    | exact resB (sX rfl (by assumption))
    | exact resB (ov3' rfl (by assumption))
    | exact resB (ov4' rfl (by assumption))
    | exact resB (okV_of (pre1 (oq1' (by assumption)) (oq2' (by assumption) (by assumption)) (oq3' (by assumption)) (by assumption)) (rfl))
 by_cases e2:n0=2
 · subst e2
   repeat' first
    | (refine And.intro ?_ ?_)
    | (intro h;cases h)
    | (intro h;rw [h])
    | (intro h)
   all_goals first
    | exact True.intro
    | exact Or.inr rfl
    | exact ⟨_,rfl⟩
    | exact resB (ov1' rfl (by assumption))
    | exact resB (ov2' rfl (by assumption))
    | exact resB (sX rfl (by assumption))
    | exact resB (ov4' rfl (by assumption))
    | exact resB (okV_n (k:=2) (by decide) (by assumption))
    | exact resB (okV_of (pre2 (oq1' (by assumption)) (oq2' (by assumption) (by assumption)) (by assumption)) (k2y (by assumption)))
 by_cases e4:n0=4
 · subst e4
   repeat' first
    | (refine And.intro ?_ ?_)
    | (intro h;cases h)
    | (intro h;rw [h])
    | (intro h)
   all_goals first
    | exact True.intro
    | exact Or.inr rfl
    | exact ⟨_,rfl⟩
    | exact resB (ov1' rfl (by assumption))
    | exact resB (ov2' rfl (by assumption))
    | exact resB (sX rfl (by assumption))
    | exact resB (ov3' rfl (by assumption))
    | exact resB (okV_of (pre4 (oq1' (by assumption)) (oq2' (by assumption) (by assumption)) (oq3' (by assumption))) (k4y (by assumption)))
    | exact resB (okV_of (pre4 (oq1' (by assumption)) (oq2' (by assumption) (by assumption)) (oq3' (by assumption))) (k4n (by assumption)))
 by_cases e5:n0=5
 · subst e5
   repeat' first
    | (refine And.intro ?_ ?_)
    | (intro h;cases h)
    | (intro h;rw [h])
    | (intro h)
   all_goals first
    | exact True.intro
    | exact Or.inr rfl
    | exact ⟨_,wr,trivial,rfl⟩
    | (refine resB (okV_of (pre5 (oq1' (by assumption)) (oq3' (by assumption)) (by assumption)) (k5y (by assumption) ?_));exact congrArg tblV hd)
    | exact resB (ov1' rfl (by assumption))
    | exact resB (ov3' rfl (by assumption))
    | exact resB (ov4' rfl (by assumption))
    | exact resB (okV_n (k:=5) (by decide) (by assumption))
 by_cases e6:n0=6
 · subst e6
   repeat' first
    | (refine And.intro ?_ ?_)
    | (intro h;cases h)
    | (intro h;rw [h])
    | (intro h)
   all_goals first
    | exact True.intro
    | exact Or.inr rfl
    | exact ⟨_,_,_,rfl⟩
    | exact resB (ov1' rfl (by assumption))
    | exact resB (ov2' rfl (by assumption))
    | exact resB (sX rfl (by assumption))
    | exact resB (ov3' rfl (by assumption))
    | exact resB (ov4' rfl (by assumption))
    | exact resB (okV_of (pre6 (oq1' (by assumption)) (oq2' (by assumption) (by assumption)) (oq3' (by assumption)) (by assumption)) (rfl))
 by_cases e3:n0=3
 · subst e3
   have wA:WfD T (.l 57) (.l l4):=wr.rows (j:=4) rfl
   have hl:=wA.len
   repeat' first
    | (refine And.intro ?_ ?_)
    | (intro h;cases h)
    | (intro h;rw [h])
    | (intro h)
   all_goals first
    | skip
   all_goals (
    refine am (Q:=_) [1,124,125,126] [1] (fun m st=>∃ i:Nat,st=([.ptr 1 1 0,argS 57 l4,.val false [.i .i64 l4.length],.val false [.i .i64 (i:Int)]],[(1,(rowC cV [.i 3,.i n1,.i n2,.s s3,.l l4,.l l5,.l l6]).map fun c=>.val false [c])])∧(∀ j,j < i→(elK (rAt l4 j) && okV (rAt l4 j))=true)∧i≤l4.length∧m=l4.length - i) ?_ ?_
    · exact ⟨rfl,l4.length,0,rfl,nolt _,jcl _,rfl⟩
    rintro m st ⟨i,rfl,hI,hle,rfl⟩
    repeat' first
     | (refine And.intro ?_ ?_)
     | (intro h;simp only [reduceCtorEq] at h;done)
     | (intro h;rw [h])
     | (intro h)
    all_goals first
     | exact True.intro
     | exact Or.inr rfl
     | with_reducible exact jcy _
     | (have hi:i < l4.length:=ltN (by assumption)
        have we:WfRow T cV (rAt l4 i):=wA.row rfl (by rw [jcG];exact hi)
        have hq:csD (rowC cV (rAt l4 i))=(rAt l4 i):=aw we
        first
         | with_reducible exact jck (by with_reducible assumption)
         | exact ⟨_,we,sm.lst (i:=i) hi,rfl⟩
         | exact resB (w9 hi (jbV (by assumption) (by assumption) (by assumption)))
         | (have hz:(!okV (rAt l4 i))=true:=(by rw [← hq];assumption)
            exact resB (w9 hi (xj hz)))
         | (show aV _ _;exact rfl)
         | (refine ⟨l4.length - (i+1),by omega,i+1,?_,aJ hI (P:=fun j=>elK (rAt l4 j) && okV (rAt l4 j)) ?_,by omega,rfl⟩
            · exact congrArg (fun z:Int=>(([.ptr 1 1 0,argS 57 l4,.val false [.i .i64 l4.length],.val false [.i .i64 z]],[(1,(rowC cV [.i 3,.i n1,.i n2,.s s3,.l l4,.l l5,.l l6]).map fun c=>.val false [c])]):Snap)) (wrapN hi hl)
            · first
               | exact oW (jbU (by assumption)) (by rw [← hq];assumption)
               | exact oW (jbT (by assumption)) (by rw [← hq];assumption)
               | exact oW (jbS (by assumption)) (by rw [← hq];assumption)))
     | (have hi:¬ i < l4.length:=nltN (by assumption)
        first
         | exact ⟨_,wr,sm.2,rfl⟩
         | exact resB (okV_n (k:=3) (by decide) (by assumption))
         | exact resB (ov4' rfl (by assumption))
         | exact resB (ov3' rfl (by assumption))
         | exact resB (ov2' rfl (by assumption))
         | exact resB (sX rfl (by assumption))
         | exact resB (okV_of (pre3 (oq2' (by assumption) (by assumption)) (oq3' (by assumption)) (by assumption)) (k3y (by assumption) (jbj (by assumption))))
         | (refine resB (okV_of (pre3 (oq2' (by assumption) (by assumption)) (oq3' (by assumption)) (by assumption)) (k3y (by assumption) ?_))
            refine (?_:_=_).trans (jbk hI hi (by assumption))
            exact congrArg (fun x=>decide (depV x≤3)) hd)))
 have k1:(n0 == 1)=false:=by simpa using e1
 have k2:(n0 == 2)=false:=by simpa using e2
 have k3:(n0 == 3)=false:=by simpa using e3
 have k4:(n0 == 4)=false:=by simpa using e4
 have k5:(n0 == 5)=false:=by simpa using e5
 have k6:(n0 == 6)=false:=by simpa using e6
 have m2:(n0 != 2)=true:=by simpa [bne] using e2
 have m3:(n0 != 3)=true:=by simpa [bne] using e3
 have m4:(n0 != 4)=true:=by simpa [bne] using e4
 have m5:(n0 != 5)=true:=by simpa [bne] using e5
 repeat' first
  | (refine And.intro ?_ ?_)
  | (intro h;cases h)
  | (intro h;exact absurd (h.symm.trans k1) Bool.noConfusion)
  | (intro h;exact absurd (h.symm.trans k2) Bool.noConfusion)
  | (intro h;exact absurd (h.symm.trans k3) Bool.noConfusion)
  | (intro h;exact absurd (h.symm.trans k4) Bool.noConfusion)
  | (intro h;exact absurd (h.symm.trans k5) Bool.noConfusion)
  | (intro h;exact absurd (h.symm.trans k6) Bool.noConfusion)
  | (intro h;exact absurd (h.symm.trans m2) Bool.noConfusion)
  | (intro h;exact absurd (h.symm.trans m3) Bool.noConfusion)
  | (intro h;exact absurd (h.symm.trans m4) Bool.noConfusion)
  | (intro h;exact absurd (h.symm.trans m5) Bool.noConfusion)
  | (intro h;rw [h])
  | (intro h)
 all_goals first
  | exact True.intro
  | exact Or.inr rfl
  | exact resB (okV_other ⟨e1,e2,e3,e4,e5,e6⟩)
theorem zx:∀ n,FOk Tryz.prog T 25 (spGB T cV (SmN n) okV):=by
 intro n
 induction n with
 | zero =>
   refine fok (env:=envL []) (N:=185) tabT ae mixed Tryz.func25 rfl Tryz.call25 Tryz.ntmps25 ?_
   rintro args ⟨a,wa,sm,rfl⟩ _
   exact absurd sm.1 (jda _)
 | succ n ih=>exact xC n ih
theorem xk25:FOk Tryz.prog T 25 (spGB T cV SmM okV):=FOk.lift zx (fun args ⟨a,wa,sm,h⟩=>⟨wRow a+1,a,wa,⟨jdk _,sm⟩,h⟩) (fun n=>rfl)
end Go.Proofs.YtcllpknipmcolaaGreatDoor.Ab
