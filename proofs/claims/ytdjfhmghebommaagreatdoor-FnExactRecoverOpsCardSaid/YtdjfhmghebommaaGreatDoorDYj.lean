/- A part. -/
import Derived.Test.YtdjfhmghebommaaGreatDoorDYf
import Derived.Test.YtdjfhmghebommaaGreatDoorDYd
import Derived.Test.YtdjfhmghebommaaGreatDoorDFi
namespace Go.Proofs.YtdjfhmghebommaaGreatDoor.Ab
open Go.RowKit
set_option linter.all false
set_option maxRecDepth 100000
set_option maxHeartbeats 2000000
theorem xk120:FOk Tryz.prog T 120 (spST 126 wX iA):=by
 refine fok (env:=envL [(47,c7),(49,spJoin)]) (N:=48) tabT (ac ok47 (ac ok49 af)) mixed Tryz.func120 rfl Tryz.call120 Tryz.ntmps120 ?_
 rintro args ⟨a,⟨n,hn,h12,hR⟩,rfl⟩ hwf
 have wa:WfD T (.l 126) (.l a):=arg0 hwf (jb6 _)
 have hl:=wa.len
 refine ⟨by simp,?_⟩
 clear hwf
 rw [Tryz.results120]
 repeat' first
  | refine And.intro ?_ ?_
  | (intro h;simp only [reduceCtorEq] at h;done)
  | (intro h;rw [h])
  | intro h
 all_goals first
  | (show aa _=true;kernel_rfl)|(show am _ _=true;kernel_rfl)|exact True.intro|exact Or.inr rfl|exact Or.inl rfl
  | skip
 refine ap (Q:=_) [0,3,4] [] (fun m st=>∃ i:Nat,st=([argS 126 a,.val false [.sl true 9 (ae ((a.take i).map rowT))],.val false [.i .i64 (i:Int)]],[])∧i≤a.length∧m=a.length - i) ?_ ?_
 · exact ⟨rfl,a.length,0,rfl,jbP _,rfl⟩
 rintro m st ⟨i,rfl,hle,rfl⟩
 repeat' first
  | refine And.intro ?_ ?_
  | (intro h;simp only [reduceCtorEq] at h;done)
  | (intro h;rw [h])
  | intro h
 all_goals first
  | (show aa _=true;kernel_rfl)|(show am _ _=true;kernel_rfl)|exact True.intro|exact Or.inr rfl|exact Or.inl rfl
  | (have hi:¬ i < a.length:=nltN (by with_reducible assumption)
     have hb:=pN (k:=i) hn h12 hR
     have hj:=eZ ((a.take i).map rowT)
     first
      | exact kr (by omega) (by omega)
      | (refine resS ((kq _).trans ?_);rw [cA hi];rfl)
      | (show 1+(bg (strsOf (ae ((a.take i).map rowT))) COMMA).size≤maxLen;rw [aP];simp only [maxLen];omega)
      | (show (LBR++bg (strsOf (ae ((a.take i).map rowT))) COMMA).size+1≤maxLen;rw [aP,aI];simp only [maxLen];show 1+_+1≤_;omega))
  | skip
 have hi:i < a.length:=ltN (by assumption)
 have wr:WfRow T [.l 3,.l 147] (rAt a i):=wa.row rfl (by rw [jca];exact hi)
 have wB:WfD T (.l 3) (.l ((rAt a i).getD 0 default).rows):=wr.rows (j:=0) rfl
 have lb:=wB.len
 obtain ⟨hc1,_,hc3⟩:=lV (hR i hi)
 refine ap (Q:=_) [0,3,4,5,6] [] (fun m st=>∃ k:Nat,st=([argS 126 a,.val false [.sl true 9 (ae ((a.take i).map rowT))],.val false [.i .i64 (i:Int)],.val false [.sl true 9 (ae ((((rAt a i).getD 0 default).rows.take k).map ma))],.val false [.i .i64 (k:Int)]],[])∧k≤((rAt a i).getD 0 default).rows.length∧m=((rAt a i).getD 0 default).rows.length - k) ?_ ?_
 · exact ⟨rfl,((rAt a i).getD 0 default).rows.length,0,rfl,jbP _,rfl⟩
 rintro m st ⟨k,rfl,kle,rfl⟩
 repeat' first
  | refine And.intro ?_ ?_
  | (intro h;simp only [reduceCtorEq] at h;done)
  | (intro h;rw [h])
  | intro h
 all_goals first
  | (show aa _=true;kernel_rfl)|(show am _ _=true;kernel_rfl)|exact True.intro|exact Or.inr rfl|exact Or.inl rfl
  | with_reducible exact jb2 _
  | (show (i:Int) < _;omega)
  | (show (Int.toNat (i:Int)) < _;rw [jca];exact hi)
  | (have hk:k < ((rAt a i).getD 0 default).rows.length:=ltN (by assumption)
     first
      | exact ⟨_,rfl⟩
      | (show (k:Int) < (((rAt a i).getD 0 default).rows.length:Int);omega)
      | (show (Int.toNat (k:Int)) < _;rw [jca];exact hk)
      | (show (ae _).length+1≤maxLen;rw [aB,jb0,jb7];simp only [maxLen];omega)
      | (show ((ae _).length+1) * 16≤_;rw [aB,jb0,jb7];omega)
      | (show aT _ _;exact rfl)
      | (refine ⟨((rAt a i).getD 0 default).rows.length - (k+1),by omega,k+1,?_,by omega,rfl⟩
         exact eA (f:=fun r z=>(([argS 126 a,.val false [.sl true 9 (ae ((a.take i).map rowT))],.val false [.i .i64 (i:Int)],.val false [.sl true 9 r],.val false [.i .i64 z]],[]):Snap)) (appN hk rfl) (wrapN hk lb)))
  | (have hk:¬ k < ((rAt a i).getD 0 default).rows.length:=nltN (by assumption)
     have hb:=pU (n:=n) (k:=k) (show ((rAt a i).getD 0 default).rows.length≤4 by omega) hc3
     have hj:=eZ ((((rAt a i).getD 0 default).rows.take k).map ma)
     first
      | exact kr (by omega) (by omega)
      | (show 1+(bg (strsOf (ae ((((rAt a i).getD 0 default).rows.take k).map ma))) COMMA).size≤maxLen;rw [aP];simp only [maxLen];omega)
      | (show (LBR++bg (strsOf (ae ((((rAt a i).getD 0 default).rows.take k).map ma))) COMMA).size+1≤maxLen;rw [aP,aI];simp only [maxLen];show 1+_+1≤_;omega)
      | (show (ae _).length+1≤maxLen;rw [aB,jb0,jb7];simp only [maxLen];omega)
      | (show ((ae _).length+1) * 16≤_;rw [aB,jb0,jb7];omega)
      | (show aT _ _;exact rfl)
      | (refine ⟨a.length - (i+1),by omega,i+1,?_,by omega,rfl⟩
         refine eA (f:=fun r z=>(([argS 126 a,.val false [.sl true 9 r],.val false [.i .i64 z]],[]):Snap)) (appN (f:=rowT) hi ?_) (wrapN hi hl)
         refine (kq _).trans ?_
         rw [cA hk]
         rfl))
  | skip
theorem xb (n:Nat) (hn:FOk Tryz.prog T 87 (spGT T cV (fun a=>SmN n a∧okV a=true) fmtV)):FOk Tryz.prog T 87 (spGT T cV (fun a=>SmN (n+1) a∧okV a=true) fmtV):=by
 refine fok (env:=envL [(47,c7),(49,spJoin),(120,(spST 126 wX iA)),(121,qC),(87,(spGT T cV (fun a=>SmN n a∧okV a=true) fmtV))]) (N:=69) tabT (ac ok47 (ac ok49 (ac xk120 (ac ok121 (ac hn af))))) mixed Tryz.func87 rfl Tryz.call87 Tryz.ntmps87 ?_
 rintro args ⟨a,wa,⟨sm,ho⟩,rfl⟩ hwf
 have hd:csD (rowC cV a)=a:=au wa
 have wr:=wa
 refine ⟨by simp,?_⟩
 clear hwf
 rw [Tryz.results87]
 obtain ⟨d0,r0,rfl,w0,wa⟩:=wa.cons'
 obtain ⟨d1,r1,rfl,w1,wa⟩:=wa.cons'
 obtain ⟨d2,r2,rfl,w2,wa⟩:=wa.cons'
 obtain ⟨d3,r3,rfl,w3,wa⟩:=wa.cons'
 obtain ⟨d4,r4,rfl,w4,wa⟩:=wa.cons'
 obtain ⟨d5,r5,rfl,w5,wa⟩:=wa.cons'
 obtain ⟨d6,r6,rfl,w6,wa⟩:=wa.cons'
 obtain rfl:=wa.nil'
 obtain ⟨n0,rfl,_⟩:=w0.int'
 obtain ⟨n1,rfl,_⟩:=w1.int'
 obtain ⟨n2,rfl,_⟩:=w2.int'
 obtain ⟨s3,rfl,_⟩:=w3.str'
 obtain ⟨l4,rfl,_⟩:=w4.sl'
 obtain ⟨l5,rfl,_⟩:=w5.sl'
 obtain ⟨l6,rfl,_⟩:=w6.sl'
 clear w0 w1 w2 w3 w4 w5 w6
 have eR:RNG.size=6:=rfl
 have eC:COMMA.size=2:=rfl
 have eP:RPA.size=1:=rfl
 have eT:TBL.size=7:=rfl
 have eM:TBM.size=3:=rfl
 have eE:ERR.size=6:=rfl
 have eL:LBR.size=1:=rfl
 have eB:RBR.size=1:=rfl
 have hk:n0=1∨n0=2∨n0=3∨n0=4∨n0=5∨n0=6:=okV_kind ho
 rcases hk with rfl|rfl|rfl|rfl|rfl|rfl
 · repeat' first
    | refine And.intro ?_ ?_
    | (intro h;cases h)
    | (intro h;rw [h])
    | intro h
   all_goals first
    | (show aa _=true;kernel_rfl)|(show am _ _=true;kernel_rfl)|exact True.intro|exact Or.inr rfl|exact Or.inl rfl
    | exact ⟨_,rfl⟩
    | (refine resS ?_;show _=fmtV (csD (rowC cV [.i 1,.i n1,.i n2,.s s3,.l l4,.l l5,.l l6]));rw [hd];exact fm1)
 · have z3:=okTxt_size (okV_txt ho rfl).1
   have z3' : s3.size≤20:=z3
   repeat' first
    | refine And.intro ?_ ?_
    | (intro h;cases h)
    | (intro h;rw [h])
    | intro h
   all_goals first
    | (show aa _=true;kernel_rfl)|(show am _ _=true;kernel_rfl)|exact True.intro|exact Or.inr rfl|exact Or.inl rfl
    | (refine resS ?_;show _=fmtV (csD (rowC cV [.i 2,.i n1,.i n2,.s s3,.l l4,.l l5,.l l6]));rw [hd];exact fm2)
    | (show 1+s3.size≤maxLen;simp only [maxLen];omega)
    | (show (QUO++s3).size+1≤maxLen;rw [aI];show 1+s3.size+1≤maxLen;simp only [maxLen];omega)
 · have wA:WfD T (.l 53) (.l l4):=wr.rows (j:=4) rfl
   have hl:=wA.len
   obtain ⟨el,el8,_⟩:=d9 (okV_list ho rfl).1
   have el8' : l4.length≤8:=el8
   repeat' first
    | refine And.intro ?_ ?_
    | (intro h;cases h)
    | (intro h;rw [h])
    | intro h
   all_goals first
    | (show aa _=true;kernel_rfl)|(show am _ _=true;kernel_rfl)|exact True.intro|exact Or.inr rfl|exact Or.inl rfl
    | skip
   refine ap (Q:=_) [1,3,4] [1] (fun m st=>∃ i:Nat,st=([.ptr 1 1 0,.val false [.sl true 9 (ae ((l4.take i).map fmtV))],.val false [.i .i64 (i:Int)]],[(1,(rowC cV [.i 3,.i n1,.i n2,.s s3,.l l4,.l l5,.l l6]).map fun c=>.val false [c])])∧i≤l4.length∧m=l4.length - i) ?_ ?_
   · exact ⟨rfl,l4.length,0,rfl,jbP _,rfl⟩
   rintro m st ⟨i,rfl,hle,rfl⟩
   repeat' first
    | refine And.intro ?_ ?_
    | (intro h;simp only [reduceCtorEq] at h;done)
    | (intro h;rw [h])
    | intro h
   all_goals first
    | (show aa _=true;kernel_rfl)|(show am _ _=true;kernel_rfl)|exact True.intro|exact Or.inr rfl|exact Or.inl rfl
    | with_reducible exact jb2 _
    | (have hi:i < l4.length:=ltN (by assumption)
       have we:WfRow T cV (rAt l4 i):=wA.row rfl (by rw [jca];exact hi)
       have hq:csD (rowC cV (rAt l4 i))=(rAt l4 i):=au we
       first
        | exact ⟨_,we,⟨sm.lst (i:=i) hi,(el i hi).2⟩,rfl⟩
        | (show (i:Int) < (l4.length:Int);omega)
        | (show (Int.toNat (i:Int)) < _;rw [jca];exact hi)
        | (show (ae _).length+1≤maxLen;rw [aB,jb0,jb7];simp only [maxLen];omega)
        | (show ((ae _).length+1) * 16≤_;rw [aB,jb0,jb7];omega)
        | (show aT _ _;exact rfl)
        | (refine ⟨l4.length - (i+1),by omega,i+1,?_,by omega,rfl⟩
           exact eA (f:=fun r z=>(([.ptr 1 1 0,.val false [.sl true 9 r],.val false [.i .i64 z]],[(1,(rowC cV [.i 3,.i n1,.i n2,.s s3,.l l4,.l l5,.l l6]).map fun c=>.val false [c])]):Snap)) (appN (f:=fmtV) hi (congrArg fmtV hq)) (wrapN hi hl)))
    | (have hi:¬ i < l4.length:=nltN (by assumption)
       have hb:=jbu (k:=i) ho rfl
       have hj:=eZ ((l4.take i).map fmtV)
       have hb' : (brk ((l4.take i).map fmtV)).size≤16018:=hb
       first
        | exact kr (by omega) (by omega)
        | (show 1+(bg (strsOf (ae ((l4.take i).map fmtV))) COMMA).size≤maxLen;rw [aP];simp only [maxLen];omega)
        | (show (LBR++bg (strsOf (ae ((l4.take i).map fmtV))) COMMA).size+1≤maxLen;rw [aP,aI];simp only [maxLen];omega)
        | (refine resS ((kq _).trans ?_);rw [cA hi];show _=fmtV (csD (rowC cV [.i 3,.i n1,.i n2,.s s3,.l l4,.l l5,.l l6]));rw [hd];exact fm3))
    | skip
 · have z1:=cC (okV_str ho rfl).1
   have z2:=cC (okV_str ho rfl).2
   have z1' : (aH n1).size≤11:=z1
   have z2' : (aH n2).size≤11:=z2
   repeat' first
    | refine And.intro ?_ ?_
    | (intro h;cases h)
    | (intro h;rw [h])
    | intro h
   all_goals first
    | (show aa _=true;kernel_rfl)|(show am _ _=true;kernel_rfl)|exact True.intro|exact Or.inr rfl|exact Or.inl rfl
    | exact ⟨_,rfl⟩
    | (refine resS ?_;show _=fmtV (csD (rowC cV [.i 4,.i n1,.i n2,.s s3,.l l4,.l l5,.l l6]));rw [hd];exact fm4)
    | (show 6+(aH n1).size≤maxLen;simp only [maxLen];omega)
    | (show (RNG++aH n1).size+2≤maxLen;simp only [aI,maxLen];omega)
    | (show (RNG++aH n1++COMMA).size+(aH n2).size≤maxLen;simp only [aI,maxLen];omega)
    | (show (RNG++aH n1++COMMA++aH n2).size+1≤maxLen;simp only [aI,maxLen];omega)
    | skip
 · obtain ⟨tc,t12,tr⟩:=lG (okV_tbl ho rfl).1
   have zc:=iM tc
   have c4:=kF tc
   have zc' : (bg (strsOf l5) ⟨#[32]⟩).size≤36:=zc
   have zr:(iA l6).size≤674:=iz c4.2.1 t12 tr
   have c4' : l5.length≤4:=c4.2.1
   repeat' first
    | refine And.intro ?_ ?_
    | (intro h;cases h)
    | (intro h;rw [h])
    | intro h
   all_goals first
    | (show aa _=true;kernel_rfl)|(show am _ _=true;kernel_rfl)|exact True.intro|exact Or.inr rfl|exact Or.inl rfl
    | exact ⟨l5,_,by omega,by omega,rfl⟩
    | exact ⟨l6,⟨l5.length,c4',t12,tr⟩,rfl⟩
    | (refine resS ?_;show _=fmtV (csD (rowC cV [.i 5,.i n1,.i n2,.s s3,.l l4,.l l5,.l l6]));rw [hd];exact fm5)
    | (show 7+(bg (strsOf l5) ⟨#[32]⟩).size≤maxLen;simp only [maxLen];omega)
    | (show (TBL++bg (strsOf l5) ⟨#[32]⟩).size+3≤maxLen;simp only [aI,maxLen];omega)
    | (show (TBL++bg (strsOf l5) ⟨#[32]⟩++TBM).size+(iA l6).size≤maxLen;simp only [aI,maxLen];omega)
    | (show (TBL++bg (strsOf l5) ⟨#[32]⟩++TBM++iA l6).size+1≤maxLen;simp only [aI,maxLen];omega)
    | skip
 · have ze:=dM n1
   obtain ⟨e0,e1⟩:=okV_err ho rfl
   repeat' first
    | refine And.intro ?_ ?_
    | (intro h;cases h)
    | (intro h;rw [h])
    | intro h
   all_goals first
    | (show aa _=true;kernel_rfl)|(show am _ _=true;kernel_rfl)|exact True.intro|exact Or.inr rfl|exact Or.inl rfl
    | exact ⟨_,e0,e1,rfl⟩
    | (refine resS ?_;show _=fmtV (csD (rowC cV [.i 6,.i n1,.i n2,.s s3,.l l4,.l l5,.l l6]));rw [hd];exact fm6)
    | (show 6+(errB n1).size≤maxLen;simp only [maxLen];omega)
    | skip
theorem yR:∀ n,FOk Tryz.prog T 87 (spGT T cV (fun a=>SmN n a∧okV a=true) fmtV):=by
 intro n
 induction n with
 | zero =>
   refine fok (env:=envL []) (N:=69) tabT af mixed Tryz.func87 rfl Tryz.call87 Tryz.ntmps87 ?_
   rintro args ⟨a,wa,sm,rfl⟩ _
   exact absurd sm.1.1 (jcE _)
 | succ n ih=>exact xb n ih
theorem xk87:FOk Tryz.prog T 87 (spGT T cV (fun a=>SmM a∧okV a=true) fmtV):=FOk.lift yR (fun args ⟨a,wa,sm,h⟩=>⟨wRow a+1,a,wa,⟨⟨jcO _,sm.1⟩,sm.2⟩,h⟩) (fun n=>rfl)
theorem xk44:FOk Tryz.prog T 44 (spGT T cV SmM fmtO):=by
 refine fok (env:=envL [(86,(spGB T cV SmM okV)),(87,(spGT T cV (fun a=>SmM a∧okV a=true) fmtV))]) (N:=8) tabT (ac xk86 (ac xk87 af)) mixed Tryz.func44 rfl Tryz.call44 Tryz.ntmps44 ?_
 rintro args ⟨a,wa,sm,rfl⟩ hwf
 have hd:csD (rowC cV a)=a:=au wa
 refine ⟨by simp,?_⟩
 clear hwf
 rw [Tryz.results44]
 repeat' first
  | refine And.intro ?_ ?_
  | (intro h;simp only [reduceCtorEq] at h;done)
  | (intro h;rw [h])
  | intro h
 all_goals first
  | (show aa _=true;kernel_rfl)|(show am _ _=true;kernel_rfl)|exact True.intro|exact Or.inr rfl|exact Or.inl rfl
  | exact ⟨_,wa,sm,rfl⟩
  | (have ho:okV a=true:=(by have h:=aA (by assumption:(!okV (csD (rowC cV a)))=false);rwa [hd] at h);first|exact ⟨_,wa,⟨sm,ho⟩,rfl⟩|(refine resS ?_;show fmtV (csD (rowC cV a))=fmtO (csD (rowC cV a));rw [hd];exact (cE ho).symm))
  | (have ho:okV a=false:=(by have h:=aY (by assumption:(!okV (csD (rowC cV a)))=true);rwa [hd] at h);refine resS ?_;show _=fmtO (csD (rowC cV a));rw [hd];exact (oW ho).symm)
  | skip
theorem xk102:FOk Tryz.prog T 102 (spST 9 jbM (fun l=>brk (strsOf l))):=by
 refine fok (env:=envL [(60,spJoin)]) (N:=7) tabT (ac ok60 af) mixed Tryz.func102 rfl Tryz.call102 Tryz.ntmps102 ?_
 rintro args ⟨a,⟨hl,hb⟩,rfl⟩ hwf
 have hj:=eZ (strsOf a)
 have hz:(bg (strsOf a) COMMA).size≤1099511627774:=by omega
 refine ⟨by simp,?_⟩
 clear hwf
 rw [Tryz.results102]
 repeat' first
  | refine And.intro ?_ ?_
  | (intro h;simp only [reduceCtorEq] at h;done)
  | (intro h;rw [h])
  | intro h
 all_goals first
  | (show aa _=true;kernel_rfl)|(show am _ _=true;kernel_rfl)|exact True.intro|exact Or.inr rfl|exact Or.inl rfl
  | (refine ⟨a,_,by omega,?_,rfl⟩;show (bg (strsOf a) COMMA).size≤_;omega)
  | (show 1+(bg (strsOf a) COMMA).size≤maxLen;simp only [maxLen];omega)
  | (show (LBR++bg (strsOf a) COMMA).size+1≤maxLen;rw [aI];show 1+(bg (strsOf a) COMMA).size+1≤maxLen;simp only [maxLen];omega)
  | exact rfl
  | skip
theorem xe (n:Nat) (hn:FOk Tryz.prog T 55 (spGT T cV (SmN n) fmtO)):FOk Tryz.prog T 55 (spGT T cV (SmN (n+1)) fmtO):=by
 refine fok (env:=envL [(59,(spGB T cV SmM okV)),(72,c7),(101,qC),(55,(spGT T cV (SmN n) fmtO)),(102,(spST 9 jbM (fun l=>brk (strsOf l)))),(60,spJoin)]) (N:=100) tabT (ac xk59 (ac ok72 (ac ok101 (ac hn (ac xk102 (ac ok60 af)))))) mixed Tryz.func55 rfl Tryz.call55 Tryz.ntmps55 ?_
 rintro args ⟨a,wa,sm,rfl⟩ hwf
 have hd:csD (rowC cV a)=a:=au wa
 have wr:=wa
 refine ⟨by simp,?_⟩
 clear hwf
 rw [Tryz.results55]
 cases ho:okV a with
 | false =>
   have hno:okV (csD (rowC cV a))=false:=by rw [hd];exact ho
   repeat' first
    | refine And.intro ?_ ?_
    | (intro h;exact absurd (h.symm.trans (notF hno)) Bool.noConfusion)
    | (intro h;rw [h])
    | intro h
   all_goals first
    | (show aa _=true;kernel_rfl)|(show am _ _=true;kernel_rfl)|exact True.intro|exact Or.inr rfl|exact Or.inl rfl
    | exact ⟨_,wa,sm.2,rfl⟩
    | (refine resS ?_;show _=fmtO (csD (rowC cV a));rw [hd,oW ho])
    | skip
 | true =>
 have hyes:okV (csD (rowC cV a))=true:=by rw [hd];exact ho
 have hnn:(!okV (csD (rowC cV a)))=false:=notT hyes
 obtain ⟨d0,r0,rfl,w0,wa⟩:=wa.cons'
 obtain ⟨d1,r1,rfl,w1,wa⟩:=wa.cons'
 obtain ⟨d2,r2,rfl,w2,wa⟩:=wa.cons'
 obtain ⟨d3,r3,rfl,w3,wa⟩:=wa.cons'
 obtain ⟨d4,r4,rfl,w4,wa⟩:=wa.cons'
 obtain ⟨d5,r5,rfl,w5,wa⟩:=wa.cons'
 obtain ⟨d6,r6,rfl,w6,wa⟩:=wa.cons'
 obtain rfl:=wa.nil'
 obtain ⟨n0,rfl,_⟩:=w0.int'
 obtain ⟨n1,rfl,_⟩:=w1.int'
 obtain ⟨n2,rfl,_⟩:=w2.int'
 obtain ⟨s3,rfl,_⟩:=w3.str'
 obtain ⟨l4,rfl,_⟩:=w4.sl'
 obtain ⟨l5,rfl,_⟩:=w5.sl'
 obtain ⟨l6,rfl,_⟩:=w6.sl'
 clear w0 w1 w2 w3 w4 w5 w6
 have eR:RNG.size=6:=rfl
 have eC:COMMA.size=2:=rfl
 have eP:RPA.size=1:=rfl
 have eT:TBL.size=7:=rfl
 have eM:TBM.size=3:=rfl
 have eE:ERR.size=6:=rfl
 have eL:LBR.size=1:=rfl
 have eB:RBR.size=1:=rfl
 have hk:n0=1∨n0=2∨n0=3∨n0=4∨n0=5∨n0=6:=okV_kind ho
 have pp:(n0=3∨l4.length=0)∧(n0=5∨(l5.length=0∧l6.length=0))∧_:=okV_p ho
 rcases hk with rfl|rfl|rfl|rfl|rfl|rfl
 · repeat' first
    | refine And.intro ?_ ?_
    | (intro h;exact absurd (h.symm.trans hnn) Bool.noConfusion)
    | (intro h;cases h)
    | (intro h;rw [h])
    | intro h
   all_goals first
    | (show aa _=true;kernel_rfl)|(show am _ _=true;kernel_rfl)|exact True.intro|exact Or.inr rfl|exact Or.inl rfl
    | exact ⟨_,wr,sm.2,rfl⟩
    | exact ⟨_,rfl⟩
    | (refine resS ?_;show _=fmtO (csD (rowC cV [.i 1,.i n1,.i n2,.s s3,.l l4,.l l5,.l l6]));rw [hd,cE ho];exact fm1)
    | skip
 · have z3:s3.size≤20:=okTxt_size (okV_txt ho rfl).1
   repeat' first
    | refine And.intro ?_ ?_
    | (intro h;exact absurd (h.symm.trans hnn) Bool.noConfusion)
    | (intro h;cases h)
    | (intro h;rw [h])
    | intro h
   all_goals first
    | (show aa _=true;kernel_rfl)|(show am _ _=true;kernel_rfl)|exact True.intro|exact Or.inr rfl|exact Or.inl rfl
    | exact ⟨_,wr,sm.2,rfl⟩
    | (refine resS ?_;show _=fmtO (csD (rowC cV [.i 2,.i n1,.i n2,.s s3,.l l4,.l l5,.l l6]));rw [hd,cE ho];exact fm2)
    | (show 1+s3.size≤maxLen;simp only [maxLen];omega)
    | (show (QUO++s3).size+1≤maxLen;rw [aI];show 1+s3.size+1≤maxLen;simp only [maxLen];omega)
    | skip
 · obtain ⟨z5,z6⟩:=pp.2.1.resolve_left (by decide)
   obtain rfl:=jcl.1 z5
   obtain rfl:=jcl.1 z6
   have wA:WfD T (.l 53) (.l l4):=wr.rows (j:=4) rfl
   have hl:=wA.len
   obtain ⟨el,el8,_⟩:=d9 (okV_list ho rfl).1
   have el8' : l4.length≤8:=el8
   have hmap:l4.map fmtO=l4.map fmtV:=tl fmtO fmtV [] l4 fun i hi=>cE (el i hi).2
   repeat' first
    | refine And.intro ?_ ?_
    | (intro h;exact absurd (h.symm.trans hnn) Bool.noConfusion)
    | (intro h;cases h)
    | (intro h;rw [h])
    | intro h
   all_goals first
    | (show aa _=true;kernel_rfl)|(show am _ _=true;kernel_rfl)|exact True.intro|exact Or.inr rfl|exact Or.inl rfl
    | exact ⟨_,wr,sm.2,rfl⟩
    | skip
   refine ap (Q:=_) [1,3,47,48,49] [1] (fun m st=>∃ i:Nat,st=([.ptr 1 1 0,.val false [.sl true 9 (ae ((l4.take i).map fmtO))],argS 53 l4,.val false [.i .i64 l4.length],.val false [.i .i64 (i:Int)]],[(1,(rowC cV [.i 3,.i n1,.i n2,.s s3,.l l4,.l [],.l []]).map fun c=>.val false [c])])∧i≤l4.length∧m=l4.length - i) ?_ ?_
   · exact ⟨rfl,l4.length,0,rfl,jbP _,rfl⟩
   rintro m st ⟨i,rfl,hle,rfl⟩
   repeat' first
    | refine And.intro ?_ ?_
    | (intro h;simp only [reduceCtorEq] at h;done)
    | (intro h;rw [h])
    | intro h
   all_goals first
    | (show aa _=true;kernel_rfl)|(show am _ _=true;kernel_rfl)|exact True.intro|exact Or.inr rfl|exact Or.inl rfl
    | with_reducible exact jb2 _
    | (have hi:i < l4.length:=ltN (by assumption)
       have we:WfRow T cV (rAt l4 i):=wA.row rfl (by rw [jca];exact hi)
       have hq:csD (rowC cV (rAt l4 i))=(rAt l4 i):=au we
       first
        | exact ⟨_,we,sm.lst (i:=i) hi,rfl⟩
        | (show (i:Int) < (l4.length:Int);omega)
        | (show (Int.toNat (i:Int)) < _;rw [jca];exact hi)
        | (show (ae _).length+1≤maxLen;rw [aB,jb0,jb7];simp only [maxLen];omega)
        | (show ((ae _).length+1) * 16≤_;rw [aB,jb0,jb7];omega)
        | (show aT _ _;exact rfl)
        | (refine ⟨l4.length - (i+1),by omega,i+1,?_,by omega,rfl⟩
           exact eA (f:=fun r z=>(([.ptr 1 1 0,.val false [.sl true 9 r],argS 53 l4,.val false [.i .i64 l4.length],.val false [.i .i64 z]],[(1,(rowC cV [.i 3,.i n1,.i n2,.s s3,.l l4,.l [],.l []]).map fun c=>.val false [c])]):Snap)) (appN (f:=fmtO) hi (congrArg fmtO hq)) (wrapN hi hl)))
    | skip
   have hi:¬ i < l4.length:=nltN (by assumption)
   have hb:=yI (k:=i) el8'
   refine ap (Q:=_) [1,3,60,61,62] [1] (fun m st=>st=([.ptr 1 1 0,.val false [.sl true 9 (ae ((l4.take i).map fmtO))],argS 126 [],.val false [.i .i64 (([]:List (List D)).length:Int)],.val false [.i .i64 0]],[(1,(rowC cV [.i 3,.i n1,.i n2,.s s3,.l l4,.l [],.l []]).map fun c=>.val false [c])])) ?_ ?_
   · exact ⟨rfl,0,rfl⟩
   rintro m st rfl
   repeat' first
    | refine And.intro ?_ ?_
    | (intro h;simp only [reduceCtorEq] at h;done)
    | (intro h;rw [h])
    | intro h
   all_goals first
    | (show aa _=true;kernel_rfl)|(show am _ _=true;kernel_rfl)|exact True.intro|exact Or.inr rfl|exact Or.inl rfl
    | exact absurd (jbO (by assumption:decide ((0:Int) < (([]:List (List D)).length:Int))=true)) (by decide)
    | (refine ⟨ae ((l4.take i).map fmtO),⟨by rw [aB,jb0,jb7];omega,by rw [aP];omega⟩,rfl⟩)
    | (refine resS ?_
       show brk (strsOf (ae ((l4.take i).map fmtO)))=fmtO (csD (rowC cV [.i 3,.i n1,.i n2,.s s3,.l l4,.l [],.l []]))
       rw [hd,cE ho,aP,cA hi,hmap]
       exact fm3)
    | skip
 · have z1:(aH n1).size≤11:=cC (okV_str ho rfl).1
   have z2:(aH n2).size≤11:=cC (okV_str ho rfl).2
   repeat' first
    | refine And.intro ?_ ?_
    | (intro h;exact absurd (h.symm.trans hnn) Bool.noConfusion)
    | (intro h;cases h)
    | (intro h;rw [h])
    | intro h
   all_goals first
    | (show aa _=true;kernel_rfl)|(show am _ _=true;kernel_rfl)|exact True.intro|exact Or.inr rfl|exact Or.inl rfl
    | exact ⟨_,wr,sm.2,rfl⟩
    | exact ⟨_,rfl⟩
    | (refine resS ?_;show _=fmtO (csD (rowC cV [.i 4,.i n1,.i n2,.s s3,.l l4,.l l5,.l l6]));rw [hd,cE ho];exact fm4)
    | (show 6+(aH n1).size≤maxLen;simp only [maxLen];omega)
    | (show (RNG++aH n1).size+2≤maxLen;simp only [aI,maxLen];omega)
    | (show (RNG++aH n1++COMMA).size+(aH n2).size≤maxLen;simp only [aI,maxLen];omega)
    | (show (RNG++aH n1++COMMA++aH n2).size+1≤maxLen;simp only [aI,maxLen];omega)
    | skip
 · have z4:l4.length=0:=pp.1.resolve_left (by decide)
   obtain rfl:=jcl.1 z4
   obtain ⟨tc,t12,tr⟩:=lG (okV_tbl ho rfl).1
   have zc:=iM tc
   have c4:=kF tc
   have zc' : (bg (strsOf l5) ⟨#[32]⟩).size≤36:=zc
   have zr:(iA l6).size≤674:=iz c4.2.1 t12 tr
   have c4' : l5.length≤4:=c4.2.1
   have t12' : l6.length≤12:=t12
   have wA:WfD T (.l 126) (.l l6):=wr.rows (j:=6) rfl
   have hl:=wA.len
   repeat' first
    | refine And.intro ?_ ?_
    | (intro h;exact absurd (h.symm.trans hnn) Bool.noConfusion)
    | (intro h;cases h)
    | (intro h;rw [h])
    | intro h
   all_goals first
    | (show aa _=true;kernel_rfl)|(show am _ _=true;kernel_rfl)|exact True.intro|exact Or.inr rfl|exact Or.inl rfl
    | exact ⟨_,wr,sm.2,rfl⟩
    | skip
   refine ap (Q:=_) [1,3,47,48,49] [1] (fun m st=>st=([.ptr 1 1 0,.val false [.sl true 9 []],argS 53 [],.val false [.i .i64 (([]:List (List D)).length:Int)],.val false [.i .i64 0]],[(1,(rowC cV [.i 5,.i n1,.i n2,.s s3,.l [],.l l5,.l l6]).map fun c=>.val false [c])])) ?_ ?_
   · exact ⟨rfl,0,rfl⟩
   rintro m st rfl
   repeat' first
    | refine And.intro ?_ ?_
    | (intro h;simp only [reduceCtorEq] at h;done)
    | (intro h;rw [h])
    | intro h
   all_goals first
    | (show aa _=true;kernel_rfl)|(show am _ _=true;kernel_rfl)|exact True.intro|exact Or.inr rfl|exact Or.inl rfl
    | exact absurd (jbO (by assumption:decide ((0:Int) < (([]:List (List D)).length:Int))=true)) (by decide)
    | skip
   refine ap (Q:=_) [1,3,60,61,62] [1] (fun m st=>∃ i:Nat,st=([.ptr 1 1 0,.val false [.sl true 9 (ae ((l6.take i).map rowT))],argS 126 l6,.val false [.i .i64 l6.length],.val false [.i .i64 (i:Int)]],[(1,(rowC cV [.i 5,.i n1,.i n2,.s s3,.l [],.l l5,.l l6]).map fun c=>.val false [c])])∧i≤l6.length∧m=l6.length - i) ?_ ?_
   · exact ⟨rfl,l6.length,0,rfl,jbP _,rfl⟩
   rintro m st ⟨i,rfl,hle,rfl⟩
   repeat' first
    | refine And.intro ?_ ?_
    | (intro h;simp only [reduceCtorEq] at h;done)
    | (intro h;rw [h])
    | intro h
   all_goals first
    | (show aa _=true;kernel_rfl)|(show am _ _=true;kernel_rfl)|exact True.intro|exact Or.inr rfl|exact Or.inl rfl
    | with_reducible exact jb2 _
    | (have hi:¬ i < l6.length:=nltN (by assumption)
       have hb:=pN (k:=i) c4.2.1 t12 tr
       have hb' : (brk ((l6.take i).map rowT)).size≤674:=hb
       have hr:brk (strsOf (ae ((l6.take i).map rowT)))=iA l6:=by rw [aP,cA hi];rfl
       first
        | exact ⟨l5,_,by omega,by omega,rfl⟩
        | exact absurd (by assumption:((5:Int) == 5)=false) (by decide)
        | exact ⟨ae ((l6.take i).map rowT),⟨by rw [aB,jb0,jb7];omega,by rw [aP];omega⟩,rfl⟩
        | (show 7+(bg (strsOf l5) ⟨#[32]⟩).size≤maxLen;simp only [maxLen];omega)
        | (show (TBL++bg (strsOf l5) ⟨#[32]⟩).size+3≤maxLen;simp only [aI,maxLen];omega)
        | (show (TBL++bg (strsOf l5) ⟨#[32]⟩++TBM).size+(brk (strsOf (ae ((l6.take i).map rowT)))).size≤maxLen;rw [hr];simp only [aI,maxLen];omega)
        | (show (TBL++bg (strsOf l5) ⟨#[32]⟩++TBM++brk (strsOf (ae ((l6.take i).map rowT)))).size+1≤maxLen;rw [hr];simp only [aI,maxLen];omega)
        | (refine resS ?_
           show TBL++bg (strsOf l5) ⟨#[32]⟩++TBM++brk (strsOf (ae ((l6.take i).map rowT)))++RPA=fmtO (csD (rowC cV [.i 5,.i n1,.i n2,.s s3,.l [],.l l5,.l l6]))
           rw [hd,cE ho,hr]
           exact fm5))
    | (have hi:i < l6.length:=ltN (by assumption)
       first
        | (show (i:Int) < (l6.length:Int);omega)
        | (show (Int.toNat (i:Int)) < _;rw [jca];exact hi))
    | skip
   have hi:i < l6.length:=ltN (by assumption)
   have we:WfRow T [.l 3,.l 147] (rAt l6 i):=wA.row rfl (by rw [jca];exact hi)
   have wB:WfD T (.l 3) (.l ((rAt l6 i).getD 0 default).rows):=we.rows (j:=0) rfl
   have lb:=wB.len
   obtain ⟨hc1,_,hc3⟩:=lV (tr i hi)
   have hc1' : ((rAt l6 i).getD 0 default).rows.length=l5.length:=hc1
   refine ap (Q:=_) [1,3,60,61,62,7,8,68,69,70] [1,7] (fun m st=>∃ k:Nat,st=([.ptr 1 1 0,.val false [.sl true 9 (ae ((l6.take i).map rowT))],argS 126 l6,.val false [.i .i64 l6.length],.val false [.i .i64 (i:Int)],.ptr 7 1 0,.val false [.sl true 9 (ae ((((rAt l6 i).getD 0 default).rows.take k).map ma))],argS 3 ((rAt l6 i).getD 0 default).rows,.val false [.i .i64 ((rAt l6 i).getD 0 default).rows.length],.val false [.i .i64 (k:Int)]],[(1,(rowC cV [.i 5,.i n1,.i n2,.s s3,.l [],.l l5,.l l6]).map fun c=>.val false [c]),(1,(rowC [.l 3,.l 147] (rAt l6 i)).map fun c=>.val false [c])])∧k≤((rAt l6 i).getD 0 default).rows.length∧m=((rAt l6 i).getD 0 default).rows.length - k) ?_ ?_
   · exact ⟨rfl,((rAt l6 i).getD 0 default).rows.length,0,rfl,jbP _,rfl⟩
   rintro m st ⟨k,rfl,kle,rfl⟩
   repeat' first
    | refine And.intro ?_ ?_
    | (intro h;simp only [reduceCtorEq] at h;done)
    | (intro h;rw [h])
    | intro h
   all_goals first
    | (show aa _=true;kernel_rfl)|(show am _ _=true;kernel_rfl)|exact True.intro|exact Or.inr rfl|exact Or.inl rfl
    | with_reducible exact jb2 _
    | (have hk:k < ((rAt l6 i).getD 0 default).rows.length:=ltN (by assumption)
       first
        | exact ⟨_,rfl⟩
        | (show (k:Int) < (((rAt l6 i).getD 0 default).rows.length:Int);omega)
        | (show (Int.toNat (k:Int)) < _;rw [jca];exact hk)
        | (show (ae _).length+1≤maxLen;rw [aB,jb0,jb7];simp only [maxLen];omega)
        | (show ((ae _).length+1) * 16≤_;rw [aB,jb0,jb7];omega)
        | (show aT _ _;exact rfl)
        | (refine ⟨((rAt l6 i).getD 0 default).rows.length - (k+1),by omega,k+1,?_,by omega,rfl⟩
           exact eA (f:=fun r z=>(([.ptr 1 1 0,.val false [.sl true 9 (ae ((l6.take i).map rowT))],argS 126 l6,.val false [.i .i64 l6.length],.val false [.i .i64 (i:Int)],.ptr 7 1 0,.val false [.sl true 9 r],argS 3 ((rAt l6 i).getD 0 default).rows,.val false [.i .i64 ((rAt l6 i).getD 0 default).rows.length],.val false [.i .i64 z]],[(1,(rowC cV [.i 5,.i n1,.i n2,.s s3,.l [],.l l5,.l l6]).map fun c=>.val false [c]),(1,(rowC [.l 3,.l 147] (rAt l6 i)).map fun c=>.val false [c])]):Snap)) (appN hk rfl) (wrapN hk lb)))
    | (have hk:¬ k < ((rAt l6 i).getD 0 default).rows.length:=nltN (by assumption)
       have hb:=pU (n:=l5.length) (k:=k) (show ((rAt l6 i).getD 0 default).rows.length≤4 by omega) hc3
       first
        | exact ⟨ae ((((rAt l6 i).getD 0 default).rows.take k).map ma),⟨by rw [aB,jb0,jb7];omega,by rw [aP];omega⟩,rfl⟩
        | (show (ae _).length+1≤maxLen;rw [aB,jb0,jb7];simp only [maxLen];omega)
        | (show ((ae _).length+1) * 16≤_;rw [aB,jb0,jb7];omega)
        | (show aT _ _;exact rfl)
        | (refine ⟨l6.length - (i+1),by omega,i+1,?_,by omega,rfl⟩
           refine eA (f:=fun r z=>(([.ptr 1 1 0,.val false [.sl true 9 r],argS 126 l6,.val false [.i .i64 l6.length],.val false [.i .i64 z]],[(1,(rowC cV [.i 5,.i n1,.i n2,.s s3,.l [],.l l5,.l l6]).map fun c=>.val false [c])]):Snap)) (appN (f:=rowT) hi ?_) (wrapN hi hl)
           show brk (strsOf (ae ((((rAt l6 i).getD 0 default).rows.take k).map ma)))=rowT (rAt l6 i)
           rw [aP,cA hk]
           rfl))
    | skip
 · have ze:=dM n1
   obtain ⟨e0,e1⟩:=okV_err ho rfl
   repeat' first
    | refine And.intro ?_ ?_
    | (intro h;exact absurd (h.symm.trans hnn) Bool.noConfusion)
    | (intro h;cases h)
    | (intro h;rw [h])
    | intro h
   all_goals first
    | (show aa _=true;kernel_rfl)|(show am _ _=true;kernel_rfl)|exact True.intro|exact Or.inr rfl|exact Or.inl rfl
    | exact ⟨_,wr,sm.2,rfl⟩
    | exact ⟨_,e0,e1,rfl⟩
    | (refine resS ?_;show _=fmtO (csD (rowC cV [.i 6,.i n1,.i n2,.s s3,.l l4,.l l5,.l l6]));rw [hd,cE ho];exact fm6)
    | (show 6+(errB n1).size≤maxLen;simp only [maxLen];omega)
    | skip
theorem yT:∀ n,FOk Tryz.prog T 55 (spGT T cV (SmN n) fmtO):=by
 intro n
 induction n with
 | zero =>
   refine fok (env:=envL []) (N:=100) tabT af mixed Tryz.func55 rfl Tryz.call55 Tryz.ntmps55 ?_
   rintro args ⟨a,wa,sm,rfl⟩ _
   exact absurd sm.1 (jcE _)
 | succ n ih=>exact xe n ih
theorem xk55:FOk Tryz.prog T 55 (spGT T cV SmM fmtO):=FOk.lift yT (fun args ⟨a,wa,sm,h⟩=>⟨wRow a+1,a,wa,⟨jcO _,sm⟩,h⟩) (fun n=>rfl)
end Go.Proofs.YtdjfhmghebommaaGreatDoor.Ab
