/- Depth and validity of values, exactly: printed by a program of this -/
import Derived.Test.YtkpnfbdoaljkpaaGreatDoorCYc
namespace Go.Proofs.YtkpnfbdoaljkpaaGreatDoor.Ab
open Go.RowKit
set_option linter.all false
set_option maxRecDepth 100000
set_option maxHeartbeats 2000000
theorem xk47:FOk Tryz.prog T 47 ww:=by
 refine fok (env:=envL []) (N:=10) tabT ae mixed Tryz.func47 rfl Tryz.call47 Tryz.ntmps47 ?_
 rintro args ⟨x,y,rfl⟩ hwf
 refine ⟨by simp,?_⟩
 clear hwf
 rw [Tryz.results47]
 repeat' first
  | (refine And.intro ?_ ?_)
  | (intro h;simp only [reduceCtorEq] at h;done)
  | (intro h;rw [h])
  | (intro h)
 all_goals first
  | (show ac _=true;kernel_rfl)|(show aj _ _=true;kernel_rfl)|exact True.intro|exact Or.inr rfl|exact Or.inl rfl
  | exact resI (max_T (by assumption))
  | exact resI (max_F (by assumption))
  | skip
theorem tj (n:Nat) (hn:FOk Tryz.prog T 162 (spGI T cV (SmN n) depV)):FOk Tryz.prog T 162 (spGI T cV (SmN (n+1)) depV):=by
 refine fok (env:=envL [(162,(spGI T cV (SmN n) depV))]) (N:=20) tabT (aa hn ae) mixed Tryz.func162 rfl Tryz.call162 Tryz.ntmps162 ?_
 rintro args ⟨a,wa,sm,rfl⟩ hwf
 have wA:WfD T (.l 53) (.l (lst a)):=wa.rows (j:=4) rfl
 have hl:=wA.len
 have hd:csD (rowC cV a)=a:=aC wa
 refine ⟨by simp,?_⟩
 clear hwf
 rw [Tryz.results162]
 repeat' first
  | (refine And.intro ?_ ?_)
  | (intro h;simp only [reduceCtorEq] at h;done)
  | (intro h;rw [h])
  | (intro h)
 all_goals first
  | (show ac _=true;kernel_rfl)|(show aj _ _=true;kernel_rfl)|exact True.intro|exact Or.inr rfl|exact Or.inl rfl
  | skip
 refine ar (Q:=_) [1,3,7,8,9] [1] (fun m st=>∃ i:Nat,st=([.ptr 1 1 0,.val false [.i .i64 (maxB i (fun j=>depV (rAt (lst a) j)))],argS 53 (lst a),.val false [.i .i64 (lst a).length],.val false [.i .i64 (i:Int)]],[(1,(rowC cV a).map fun c=>.val false [c])])∧i≤(lst a).length∧m=(lst a).length - i) ?_ ?_
 · exact ⟨rfl,(lst a).length,0,rfl,jaU _,rfl⟩
 rintro m st ⟨i,rfl,hle,rfl⟩
 repeat' first
  | (refine And.intro ?_ ?_)
  | (intro h;simp only [reduceCtorEq] at h;done)
  | (intro h;rw [h])
  | (intro h)
 all_goals first
  | (show ac _=true;kernel_rfl)|(show aj _ _=true;kernel_rfl)|exact True.intro|exact Or.inr rfl|exact Or.inl rfl
  | with_reducible exact ja7 _
  | (have hi:i < (lst a).length:=ltN (by assumption)
     have wr:WfRow T cV (rAt (lst a) i):=wA.row rfl (by rw [jbf];exact hi)
     have hq:csD (rowC cV (rAt (lst a) i))=(rAt (lst a) i):=aC wr
     first
      | with_reducible exact jaT (by with_reducible assumption)
      | exact ⟨_,wr,sm.lst hi,rfl⟩
      | exact ⟨_,_,rfl⟩
      | (show IntKind.i64.min≤depV (csD (rowC cV (rAt (lst a) i)));rw [hq];exact (vy (SmM.lst sm.2 hi)).1)
      | (show depV (csD (rowC cV (rAt (lst a) i)))≤IntKind.i64.max;rw [hq];exact (vy (SmM.lst sm.2 hi)).2)
      | (show (i:Int) < _;omega)
      | (show (Int.toNat (i:Int)) < _;rw [jbf];exact hi)
      | (show aL _ _;exact rfl)
      | (refine ⟨(lst a).length - (i+1),by omega,i+1,?_,by omega,rfl⟩
         first
          | exact uX (f:=fun y z:Int=>(([.ptr 1 1 0,.val false [.i .i64 y],argS 53 (lst a),.val false [.i .i64 (lst a).length],.val false [.i .i64 z]],[(1,(rowC cV a).map fun c=>.val false [c])]):Snap)) ((congrArg (fun z=>max (maxB i (fun j=>depV (rAt (lst a) j))) (depV z)) hq).trans (c8 i _).symm) (wrapN hi hl)
          | (refine uX (f:=fun y z:Int=>(([.ptr 1 1 0,.val false [.i .i64 y],argS 53 (lst a),.val false [.i .i64 (lst a).length],.val false [.i .i64 z]],[(1,(rowC cV a).map fun c=>.val false [c])]):Snap)) (b:=IntKind.i64.wrap (i+1)) ?_ (wrapN hi hl)
             refine (zR _ _ _).trans ?_
             exact (congrArg (fun z=>max (maxB i (fun j=>depV (rAt (lst a) j))) (depV z)) hq).trans (c8 i _).symm)))
  | (have hi:¬ i < (lst a).length:=nltN (by assumption)
     show [CV.i .i64 _]=[CV.i .i64 (depV (csD (rowC cV a)))]
     rw [hd]
     exact xG sm.2 hle hi)
  | skip
theorem vH:∀ n,FOk Tryz.prog T 162 (spGI T cV (SmN n) depV):=by
 intro n
 induction n with
 | zero =>
   refine fok (env:=envL []) (N:=20) tabT ae mixed Tryz.func162 rfl Tryz.call162 Tryz.ntmps162 ?_
   rintro args ⟨a,wa,sm,rfl⟩ _
   exact absurd sm.1 (jbJ _)
 | succ n ih=>exact tj n ih
theorem xk162:FOk Tryz.prog T 162 (spGI T cV SmM depV):=FOk.lift vH (fun args ⟨a,wa,sm,h⟩=>⟨wRow a+1,a,wa,⟨jbT _,sm⟩,h⟩) (fun n=>rfl)
theorem tl (n:Nat) (hn:FOk Tryz.prog T 112 (spGB T cV (SmN n) okV)):FOk Tryz.prog T 112 (spGB T cV (SmN (n+1)) okV):=by
 refine fok (env:=envL [(159,jW),(160,(spTB okTxt)),(50,spIn),(161,(spGB T cV (fun _=>True) tblV)),(112,(spGB T cV (SmN n) okV)),(162,(spGI T cV SmM depV))]) (N:=185) tabT (aa ok159 (aa xk160 (aa ok50 (aa xk161 (aa hn (aa xk162 ae)))))) mixed Tryz.func112 rfl Tryz.call112 Tryz.ntmps112 ?_
 rintro args ⟨a,wa,sm,rfl⟩ hwf
 have hd:csD (rowC cV a)=a:=aC wa
 have wr:=wa
 refine ⟨by simp,?_⟩
 clear hwf
 rw [Tryz.results112]
 obtain ⟨d0,r0,rfl,w0,wa⟩:=wa.cons'
 obtain ⟨d1,r1,rfl,w1,wa⟩:=wa.cons'
 obtain ⟨d2,r2,rfl,w2,wa⟩:=wa.cons'
 obtain ⟨d3,r3,rfl,w3,wa⟩:=wa.cons'
 obtain ⟨d4,r4,rfl,w4,wa⟩:=wa.cons'
 obtain ⟨d5,r5,rfl,w5,wa⟩:=wa.cons'
 obtain ⟨d6,r6,rfl,w6,wa⟩:=wa.cons'
 obtain rfl:=wa.nil'
 obtain ⟨n0,rfl,_⟩:=w0.int'
 obtain ⟨n1,rfl,_⟩:=w1.int'
 obtain ⟨n2,rfl,_⟩:=w2.int'
 obtain ⟨s3,rfl,_⟩:=w3.str'
 obtain ⟨l4,rfl,_⟩:=w4.sl'
 obtain ⟨l5,rfl,_⟩:=w5.sl'
 obtain ⟨l6,rfl,_⟩:=w6.sl'
 have b56:=w56 sm.2
 clear w0 w1 w2 w3 w4 w5 w6
 by_cases e1:n0=1
 · subst e1
   repeat' first
    | (refine And.intro ?_ ?_)
    | (intro h;cases h)
    | (intro h;rw [h])
    | (intro h)
   all_goals first
    | (show ac _=true;kernel_rfl)|(show aj _ _=true;kernel_rfl)|exact True.intro|exact Or.inr rfl|exact Or.inl rfl
    | exact ⟨_,rfl⟩
    | exact ⟨_,_,_,rfl⟩
    | exact resB (ov1' rfl (by assumption))
    | exact resB (ov2' rfl (by assumption))
    | exact resB (rB rfl (by assumption))
    | exact resB (ov3' rfl (by assumption))
    | exact resB (ov4' rfl (by assumption))
    | exact resB (okV_of (pre1 (oq1' (by assumption)) (oq2' (by assumption) (by assumption)) (oq3' (by assumption)) (by assumption)) (rfl))
    | skip
 by_cases e2:n0=2
 · subst e2
   repeat' first
    | (refine And.intro ?_ ?_)
    | (intro h;cases h)
    | (intro h;rw [h])
    | (intro h)
   all_goals first
    | (show ac _=true;kernel_rfl)|(show aj _ _=true;kernel_rfl)|exact True.intro|exact Or.inr rfl|exact Or.inl rfl
    | exact ⟨_,rfl⟩
    | exact ⟨_,_,_,rfl⟩
    | exact resB (ov1' rfl (by assumption))
    | exact resB (ov2' rfl (by assumption))
    | exact resB (rB rfl (by assumption))
    | exact resB (ov4' rfl (by assumption))
    | exact resB (okV_n (k:=2) (by decide) (by assumption))
    | exact resB (okV_of (pre2 (oq1' (by assumption)) (oq2' (by assumption) (by assumption)) (by assumption)) (k2y (by assumption)))
    | skip
 by_cases e4:n0=4
 · subst e4
   repeat' first
    | (refine And.intro ?_ ?_)
    | (intro h;cases h)
    | (intro h;rw [h])
    | (intro h)
   all_goals first
    | (show ac _=true;kernel_rfl)|(show aj _ _=true;kernel_rfl)|exact True.intro|exact Or.inr rfl|exact Or.inl rfl
    | exact ⟨_,rfl⟩
    | exact ⟨_,_,_,rfl⟩
    | exact resB (ov1' rfl (by assumption))
    | exact resB (ov2' rfl (by assumption))
    | exact resB (rB rfl (by assumption))
    | exact resB (ov3' rfl (by assumption))
    | exact resB (okV_of (pre4 (oq1' (by assumption)) (oq2' (by assumption) (by assumption)) (oq3' (by assumption))) (k4y (by assumption)))
    | exact resB (okV_of (pre4 (oq1' (by assumption)) (oq2' (by assumption) (by assumption)) (oq3' (by assumption))) (k4n (by assumption)))
    | skip
 by_cases e5:n0=5
 · subst e5
   repeat' first
    | (refine And.intro ?_ ?_)
    | (intro h;cases h)
    | (intro h;rw [h])
    | (intro h)
   all_goals first
    | (show ac _=true;kernel_rfl)|(show aj _ _=true;kernel_rfl)|exact True.intro|exact Or.inr rfl|exact Or.inl rfl
    | exact ⟨_,rfl⟩
    | exact ⟨_,_,_,rfl⟩
    | exact ⟨_,wr,trivial,rfl⟩
    | (refine resB (okV_of (pre5 (oq1' (by assumption)) (oq3' (by assumption)) (by assumption)) (k5y (by assumption) ?_));exact congrArg tblV hd)
    | exact resB (ov1' rfl (by assumption))
    | exact resB (ov3' rfl (by assumption))
    | exact resB (ov4' rfl (by assumption))
    | exact resB (okV_n (k:=5) (by decide) (by assumption))
    | skip
 by_cases e6:n0=6
 · subst e6
   repeat' first
    | (refine And.intro ?_ ?_)
    | (intro h;cases h)
    | (intro h;rw [h])
    | (intro h)
   all_goals first
    | (show ac _=true;kernel_rfl)|(show aj _ _=true;kernel_rfl)|exact True.intro|exact Or.inr rfl|exact Or.inl rfl
    | exact ⟨_,rfl⟩
    | exact ⟨_,_,_,rfl⟩
    | exact resB (ov1' rfl (by assumption))
    | exact resB (ov2' rfl (by assumption))
    | exact resB (rB rfl (by assumption))
    | exact resB (ov3' rfl (by assumption))
    | exact resB (ov4' rfl (by assumption))
    | exact resB (okV_of (pre6 (oq1' (by assumption)) (oq2' (by assumption) (by assumption)) (oq3' (by assumption)) (by assumption)) (rfl))
    | skip
 by_cases e3:n0=3
 · subst e3
   have wA:WfD T (.l 53) (.l l4):=wr.rows (j:=4) rfl
   have hl:=wA.len
   repeat' first
    | (refine And.intro ?_ ?_)
    | (intro h;cases h)
    | (intro h;rw [h])
    | (intro h)
   all_goals first
    | (show ac _=true;kernel_rfl)|(show aj _ _=true;kernel_rfl)|exact True.intro|exact Or.inr rfl|exact Or.inl rfl
    | skip
   all_goals (
    refine ar (Q:=_) [1,124,125,126] [1] (fun m st=>∃ i:Nat,st=([.ptr 1 1 0,argS 53 l4,.val false [.i .i64 l4.length],.val false [.i .i64 (i:Int)]],[(1,(rowC cV [.i 3,.i n1,.i n2,.s s3,.l l4,.l l5,.l l6]).map fun c=>.val false [c])])∧(∀ j,j < i→(elK (rAt l4 j) && okV (rAt l4 j))=true)∧i≤l4.length∧m=l4.length - i) ?_ ?_
    · exact ⟨rfl,l4.length,0,rfl,nolt _,jaU _,rfl⟩
    rintro m st ⟨i,rfl,hI,hle,rfl⟩
    repeat' first
     | (refine And.intro ?_ ?_)
     | (intro h;simp only [reduceCtorEq] at h;done)
     | (intro h;rw [h])
     | (intro h)
    all_goals first
     | (show ac _=true;kernel_rfl)|(show aj _ _=true;kernel_rfl)|exact True.intro|exact Or.inr rfl|exact Or.inl rfl
     | with_reducible exact ja7 _
     | (have hi:i < l4.length:=ltN (by assumption)
        have we:WfRow T cV (rAt l4 i):=wA.row rfl (by rw [jbf];exact hi)
        have hq:csD (rowC cV (rAt l4 i))=(rAt l4 i):=aC we
        first
         | with_reducible exact jaT (by with_reducible assumption)
         | exact ⟨_,we,sm.lst (i:=i) hi,rfl⟩
         | (show (i:Int) < _;omega)
         | (show (Int.toNat (i:Int)) < _;rw [jbf];exact hi)
         | exact resB (vn hi (jax (by assumption) (by assumption) (by assumption)))
         | (have hz:(!okV (rAt l4 i))=true:=(by rw [← hq];assumption)
            exact resB (vn hi (jat hz)))
         | (show aL _ _;exact rfl)
         | (refine ⟨l4.length - (i+1),by omega,i+1,?_,aZ hI (P:=fun j=>elK (rAt l4 j) && okV (rAt l4 j)) ?_,by omega,rfl⟩
            · exact congrArg (fun z:Int=>(([.ptr 1 1 0,argS 53 l4,.val false [.i .i64 l4.length],.val false [.i .i64 z]],[(1,(rowC cV [.i 3,.i n1,.i n2,.s s3,.l l4,.l l5,.l l6]).map fun c=>.val false [c])]):Snap)) (wrapN hi hl)
            · first
               | exact nY (jaw (by assumption)) (by rw [← hq];assumption)
               | exact nY (jav (by assumption)) (by rw [← hq];assumption)
               | exact nY (jau (by assumption)) (by rw [← hq];assumption)))
     | (have hi:¬ i < l4.length:=nltN (by assumption)
        first
         | exact ⟨_,wr,sm.2,rfl⟩
         | exact resB (okV_n (k:=3) (by decide) (by assumption))
         | exact resB (ov4' rfl (by assumption))
         | exact resB (ov3' rfl (by assumption))
         | exact resB (ov2' rfl (by assumption))
         | exact resB (rB rfl (by assumption))
         | exact resB (okV_of (pre3 (oq2' (by assumption) (by assumption)) (oq3' (by assumption)) (by assumption)) (k3y (by assumption) (zT (by assumption))))
         | (refine resB (okV_of (pre3 (oq2' (by assumption) (by assumption)) (oq3' (by assumption)) (by assumption)) (k3y (by assumption) ?_))
            refine (?_:_=_).trans (zU hI hi (by assumption))
            exact congrArg (fun x=>decide (depV x≤3)) hd))
     | skip)
 have k1:(n0 == 1)=false:=by simpa using e1
 have k2:(n0 == 2)=false:=by simpa using e2
 have k3:(n0 == 3)=false:=by simpa using e3
 have k4:(n0 == 4)=false:=by simpa using e4
 have k5:(n0 == 5)=false:=by simpa using e5
 have k6:(n0 == 6)=false:=by simpa using e6
 have m2:(n0 != 2)=true:=by simpa [bne] using e2
 have m3:(n0 != 3)=true:=by simpa [bne] using e3
 have m4:(n0 != 4)=true:=by simpa [bne] using e4
 have m5:(n0 != 5)=true:=by simpa [bne] using e5
 repeat' first
  | (refine And.intro ?_ ?_)
  | (intro h;cases h)
  | (intro h;exact absurd (h.symm.trans k1) Bool.noConfusion)
  | (intro h;exact absurd (h.symm.trans k2) Bool.noConfusion)
  | (intro h;exact absurd (h.symm.trans k3) Bool.noConfusion)
  | (intro h;exact absurd (h.symm.trans k4) Bool.noConfusion)
  | (intro h;exact absurd (h.symm.trans k5) Bool.noConfusion)
  | (intro h;exact absurd (h.symm.trans k6) Bool.noConfusion)
  | (intro h;exact absurd (h.symm.trans m2) Bool.noConfusion)
  | (intro h;exact absurd (h.symm.trans m3) Bool.noConfusion)
  | (intro h;exact absurd (h.symm.trans m4) Bool.noConfusion)
  | (intro h;exact absurd (h.symm.trans m5) Bool.noConfusion)
  | (intro h;rw [h])
  | (intro h)
 all_goals first
  | (show ac _=true;kernel_rfl)|(show aj _ _=true;kernel_rfl)|exact True.intro|exact Or.inr rfl|exact Or.inl rfl
  | exact resB (okV_other ⟨e1,e2,e3,e4,e5,e6⟩)
theorem vI:∀ n,FOk Tryz.prog T 112 (spGB T cV (SmN n) okV):=by
 intro n
 induction n with
 | zero =>
   refine fok (env:=envL []) (N:=185) tabT ae mixed Tryz.func112 rfl Tryz.call112 Tryz.ntmps112 ?_
   rintro args ⟨a,wa,sm,rfl⟩ _
   exact absurd sm.1 (jbJ _)
 | succ n ih=>exact tl n ih
theorem xk112:FOk Tryz.prog T 112 (spGB T cV SmM okV):=FOk.lift vI (fun args ⟨a,wa,sm,h⟩=>⟨wRow a+1,a,wa,⟨jbT _,sm⟩,h⟩) (fun n=>rfl)
end Go.Proofs.YtkpnfbdoaljkpaaGreatDoor.Ab
