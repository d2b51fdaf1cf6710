/- Texts of values in the reference, exactly: printed by a program of this -/
import Derived.Test.YtcllpknipmcolaaGreatDoorCYf
import Derived.Test.YtcllpknipmcolaaGreatDoorCYd
import Derived.Test.YtcllpknipmcolaaGreatDoorCFe
namespace Go.Proofs.YtcllpknipmcolaaGreatDoor.Ab
open Go.RowKit
set_option linter.all false
set_option maxRecDepth 100000
set_option maxHeartbeats 2000000
theorem xk128:FOk Tryz.prog T 128 (spST 101 xt ij):=by
 refine fok (env:=envL [(20,cr),(52,spJoin)]) (N:=48) tabT (aa ok20 (aa ok52 ae)) mixed Tryz.func128 rfl Tryz.call128 Tryz.ntmps128 ?_
 rintro args ⟨a,⟨n,hn,h12,hR⟩,rfl⟩ hwf
 have wa:WfD T (.l 101) (.l a):=arg0 hwf (jcC _)
 have hl:=wa.len
 refine ⟨by simp,?_⟩
 clear hwf
 rw [Tryz.results128]
 repeat' first
  | (refine And.intro ?_ ?_)
  | (intro h;simp only [reduceCtorEq] at h;done)
  | (intro h;rw [h])
  | (intro h)
 all_goals first
  | skip
 refine am (Q:=_) [0,3,4] [] (fun m st=>∃ i:Nat,st=([argS 101 a,.val false [.sl true 9 (ac ((a.take i).map rowT))],.val false [.i .i64 (i:Int)]],[])∧i≤a.length∧m=a.length - i) ?_ ?_
 · exact ⟨rfl,a.length,0,rfl,jcl _,rfl⟩
 rintro m st ⟨i,rfl,hle,rfl⟩
 repeat' first
  | (refine And.intro ?_ ?_)
  | (intro h;simp only [reduceCtorEq] at h;done)
  | (intro h;rw [h])
  | (intro h)
 all_goals first
  | exact True.intro
  | exact Or.inr rfl
  | (have hi:¬ i < a.length:=nltN (by with_reducible assumption)
     have hb:=pF (k:=i) hn h12 hR
     have hj:=eW ((a.take i).map rowT)
     first
      | exact j7 (by omega) (by omega)
      | (refine resS ((j6 _).trans ?_);rw [cz hi];rfl)
      | (show 1+(bg (strsOf (ac ((a.take i).map rowT))) COMMA).size≤maxLen;rw [aS];simp only [maxLen];omega)
      | (show (LBR++bg (strsOf (ac ((a.take i).map rowT))) COMMA).size+1≤maxLen;rw [aS,aM];simp only [maxLen];show 1+_+1≤_;omega))
  | skip
 have hi:i < a.length:=ltN (by assumption)
 have wr:WfRow T [.l 3,.l 126] (rAt a i):=wa.row rfl (by rw [jcG];exact hi)
 have wB:WfD T (.l 3) (.l ((rAt a i).getD 0 default).rows):=wr.rows (j:=0) rfl
 have lb:=wB.len
 obtain ⟨hc1,_,hc3⟩:=lP (hR i hi)
 refine am (Q:=_) [0,3,4,5,6] [] (fun m st=>∃ k:Nat,st=([argS 101 a,.val false [.sl true 9 (ac ((a.take i).map rowT))],.val false [.i .i64 (i:Int)],.val false [.sl true 9 (ac ((((rAt a i).getD 0 default).rows.take k).map l7))],.val false [.i .i64 (k:Int)]],[])∧k≤((rAt a i).getD 0 default).rows.length∧m=((rAt a i).getD 0 default).rows.length - k) ?_ ?_
 · exact ⟨rfl,((rAt a i).getD 0 default).rows.length,0,rfl,jcl _,rfl⟩
 rintro m st ⟨k,rfl,kle,rfl⟩
 repeat' first
  | (refine And.intro ?_ ?_)
  | (intro h;simp only [reduceCtorEq] at h;done)
  | (intro h;rw [h])
  | (intro h)
 all_goals first
  | with_reducible exact jcy _
  | (show (i:Int) < _;omega)
  | (have hk:k < ((rAt a i).getD 0 default).rows.length:=ltN (by assumption)
     first
      | exact ⟨_,rfl⟩
      | (show (k:Int) < (((rAt a i).getD 0 default).rows.length:Int);omega)
      | (show (ac _).length+1≤maxLen;rw [aG,jcw,jcD];simp only [maxLen];omega)
      | (show ((ac _).length+1) * 16≤_;rw [aG,jcw,jcD];omega)
      | (show aV _ _;exact rfl)
      | (refine ⟨((rAt a i).getD 0 default).rows.length - (k+1),by omega,k+1,?_,by omega,rfl⟩
         exact ef (f:=fun r z=>(([argS 101 a,.val false [.sl true 9 (ac ((a.take i).map rowT))],.val false [.i .i64 (i:Int)],.val false [.sl true 9 r],.val false [.i .i64 z]],[]):Snap)) (appN hk rfl) (wrapN hk lb)))
  | (have hk:¬ k < ((rAt a i).getD 0 default).rows.length:=nltN (by assumption)
     have hb:=pO (n:=n) (k:=k) (show ((rAt a i).getD 0 default).rows.length≤4 by omega) hc3
     have hj:=eW ((((rAt a i).getD 0 default).rows.take k).map l7)
     first
      | exact j7 (by omega) (by omega)
      | (show 1+(bg (strsOf (ac ((((rAt a i).getD 0 default).rows.take k).map l7))) COMMA).size≤maxLen;rw [aS];simp only [maxLen];omega)
      | (show (LBR++bg (strsOf (ac ((((rAt a i).getD 0 default).rows.take k).map l7))) COMMA).size+1≤maxLen;rw [aS,aM];simp only [maxLen];show 1+_+1≤_;omega)
      | (show (ac _).length+1≤maxLen;rw [aG,jcw,jcD];simp only [maxLen];omega)
      | (show ((ac _).length+1) * 16≤_;rw [aG,jcw,jcD];omega)
      | (show aV _ _;exact rfl)
      | (refine ⟨a.length - (i+1),by omega,i+1,?_,by omega,rfl⟩
         refine ef (f:=fun r z=>(([argS 101 a,.val false [.sl true 9 r],.val false [.i .i64 z]],[]):Snap)) (appN (f:=rowT) hi ?_) (wrapN hi hl)
         refine (j6 _).trans ?_
         rw [cz hk]
         rfl))
theorem xx (n:Nat) (hn:FOk Tryz.prog T 85 (spGT T cV (fun a=>SmN n a∧okV a=true) fmtV)):FOk Tryz.prog T 85 (spGT T cV (fun a=>SmN (n+1) a∧okV a=true) fmtV):=by
 refine fok (env:=envL [(20,cr),(52,spJoin),(128,(spST 101 xt ij)),(129,qq),(85,(spGT T cV (fun a=>SmN n a∧okV a=true) fmtV))]) (N:=69) tabT (aa ok20 (aa ok52 (aa xk128 (aa ok129 (aa hn ae))))) mixed Tryz.func85 rfl Tryz.call85 Tryz.ntmps85 ?_
 rintro args ⟨a,wa,⟨sm,ho⟩,rfl⟩ hwf
 have hd:csD (rowC cV a)=a:=aw wa
 have wr:=wa
 refine ⟨by simp,?_⟩
 clear hwf
 rw [Tryz.results85]
 obtain ⟨d0,r0,rfl,w0,wa⟩:=wa.cons'
 obtain ⟨d1,r1,rfl,w1,wa⟩:=wa.cons'
 obtain ⟨d2,r2,rfl,w2,wa⟩:=wa.cons'
 obtain ⟨d3,r3,rfl,w3,wa⟩:=wa.cons'
 obtain ⟨d4,r4,rfl,w4,wa⟩:=wa.cons'
 obtain ⟨d5,r5,rfl,w5,wa⟩:=wa.cons'
 obtain ⟨d6,r6,rfl,w6,wa⟩:=wa.cons'
 obtain rfl:=wa.nil'
 obtain ⟨n0,rfl,_⟩:=w0.int'
 obtain ⟨n1,rfl,_⟩:=w1.int'
 obtain ⟨n2,rfl,_⟩:=w2.int'
 obtain ⟨s3,rfl,_⟩:=w3.str'
 obtain ⟨l4,rfl,_⟩:=w4.sl'
 obtain ⟨l5,rfl,_⟩:=w5.sl'
 obtain ⟨l6,rfl,_⟩:=w6.sl'
 clear w0 w1 w2 w3 w4 w5 w6
 have eR:RNG.size=6:=rfl
 have eC:COMMA.size=2:=rfl
 have eP:RPA.size=1:=rfl
 have eT:TBL.size=7:=rfl
 have eM:TBM.size=3:=rfl
 have eE:ERR.size=6:=rfl
 have eL:LBR.size=1:=rfl
 have eB:RBR.size=1:=rfl
 have hk:n0=1∨n0=2∨n0=3∨n0=4∨n0=5∨n0=6:=okV_kind ho
 rcases hk with rfl|rfl|rfl|rfl|rfl|rfl
 · repeat' first
    | (refine And.intro ?_ ?_)
    | (intro h;cases h)
    | (intro h;rw [h])
    | (intro h)
   all_goals first
    | exact True.intro
    | exact Or.inr rfl
    | exact ⟨_,rfl⟩
    | (refine resS ?_;show _=fmtV (csD (rowC cV [.i 1,.i n1,.i n2,.s s3,.l l4,.l l5,.l l6]));rw [hd];exact fm1)
 · have z3:=okTxt_size (okV_txt ho rfl).1
   have z3' : s3.size≤20:=z3
   repeat' first
    | (refine And.intro ?_ ?_)
    | (intro h;cases h)
    | (intro h;rw [h])
    | (intro h)
   all_goals first
    | exact True.intro
    | exact Or.inr rfl
    | (refine resS ?_;show _=fmtV (csD (rowC cV [.i 2,.i n1,.i n2,.s s3,.l l4,.l l5,.l l6]));rw [hd];exact fm2)
    | (show 1+s3.size≤maxLen;simp only [maxLen];omega)
    | (show (QUO++s3).size+1≤maxLen;rw [aM];show 1+s3.size+1≤maxLen;simp only [maxLen];omega)
 · have wA:WfD T (.l 57) (.l l4):=wr.rows (j:=4) rfl
   have hl:=wA.len
   obtain ⟨el,el8,_⟩:=dS (okV_list ho rfl).1
   have el8' : l4.length≤8:=el8
   repeat' first
    | (refine And.intro ?_ ?_)
    | (intro h;cases h)
    | (intro h;rw [h])
    | (intro h)
   all_goals first
    | skip
   refine am (Q:=_) [1,3,4] [1] (fun m st=>∃ i:Nat,st=([.ptr 1 1 0,.val false [.sl true 9 (ac ((l4.take i).map fmtV))],.val false [.i .i64 (i:Int)]],[(1,(rowC cV [.i 3,.i n1,.i n2,.s s3,.l l4,.l l5,.l l6]).map fun c=>.val false [c])])∧i≤l4.length∧m=l4.length - i) ?_ ?_
   · exact ⟨rfl,l4.length,0,rfl,jcl _,rfl⟩
   rintro m st ⟨i,rfl,hle,rfl⟩
   repeat' first
    | (refine And.intro ?_ ?_)
    | (intro h;simp only [reduceCtorEq] at h;done)
    | (intro h;rw [h])
    | (intro h)
   all_goals first
    | exact True.intro
    | exact Or.inr rfl
    | with_reducible exact jcy _
    | (have hi:i < l4.length:=ltN (by assumption)
       have we:WfRow T cV (rAt l4 i):=wA.row rfl (by rw [jcG];exact hi)
       have hq:csD (rowC cV (rAt l4 i))=(rAt l4 i):=aw we
       first
        | exact ⟨_,we,⟨sm.lst (i:=i) hi,(el i hi).2⟩,rfl⟩
        | (show (i:Int) < (l4.length:Int);omega)
        | (show (ac _).length+1≤maxLen;rw [aG,jcw,jcD];simp only [maxLen];omega)
        | (show ((ac _).length+1) * 16≤_;rw [aG,jcw,jcD];omega)
        | (show aV _ _;exact rfl)
        | (refine ⟨l4.length - (i+1),by omega,i+1,?_,by omega,rfl⟩
           exact ef (f:=fun r z=>(([.ptr 1 1 0,.val false [.sl true 9 r],.val false [.i .i64 z]],[(1,(rowC cV [.i 3,.i n1,.i n2,.s s3,.l l4,.l l5,.l l6]).map fun c=>.val false [c])]):Snap)) (appN (f:=fmtV) hi (congrArg fmtV hq)) (wrapN hi hl)))
    | (have hi:¬ i < l4.length:=nltN (by assumption)
       have hb:=jbR (k:=i) ho rfl
       have hj:=eW ((l4.take i).map fmtV)
       have hb' : (brk ((l4.take i).map fmtV)).size≤16018:=hb
       first
        | exact j7 (by omega) (by omega)
        | (show 1+(bg (strsOf (ac ((l4.take i).map fmtV))) COMMA).size≤maxLen;rw [aS];simp only [maxLen];omega)
        | (show (LBR++bg (strsOf (ac ((l4.take i).map fmtV))) COMMA).size+1≤maxLen;rw [aS,aM];simp only [maxLen];omega)
        | (refine resS ((j6 _).trans ?_);rw [cz hi];show _=fmtV (csD (rowC cV [.i 3,.i n1,.i n2,.s s3,.l l4,.l l5,.l l6]));rw [hd];exact fm3))
 · have z1:=cm (okV_str ho rfl).1
   have z2:=cm (okV_str ho rfl).2
   have z1' : (aC n1).size≤11:=z1
   have z2' : (aC n2).size≤11:=z2
   repeat' first
    | (refine And.intro ?_ ?_)
    | (intro h;cases h)
    | (intro h;rw [h])
    | (intro h)
   all_goals first
    | (show av _=true;kernel_rfl)
    | (show aX _ _=true;kernel_rfl)
    | exact True.intro
    | exact Or.inr rfl
    | exact ⟨_,rfl⟩
    | (refine resS ?_;show _=fmtV (csD (rowC cV [.i 4,.i n1,.i n2,.s s3,.l l4,.l l5,.l l6]));rw [hd];exact fm4)
    | (show 6+(aC n1).size≤maxLen;simp only [maxLen];omega)
    | (show (RNG++aC n1).size+2≤maxLen;simp only [aM,maxLen];omega)
    | (show (RNG++aC n1++COMMA).size+(aC n2).size≤maxLen;simp only [aM,maxLen];omega)
    | (show (RNG++aC n1++COMMA++aC n2).size+1≤maxLen;simp only [aM,maxLen];omega)
 · obtain ⟨tc,t12,tr⟩:=lu (okV_tbl ho rfl).1
   have zc:=iw tc
   have c4:=kj tc
   have zc' : (bg (strsOf l5) ⟨#[32]⟩).size≤36:=zc
   have zr:(ij l6).size≤674:=ii c4.2.1 t12 tr
   have c4' : l5.length≤4:=c4.2.1
   repeat' first
    | (refine And.intro ?_ ?_)
    | (intro h;cases h)
    | (intro h;rw [h])
    | (intro h)
   all_goals first
    | (show av _=true;kernel_rfl)
    | (show aX _ _=true;kernel_rfl)
    | exact True.intro
    | exact Or.inr rfl
    | exact ⟨l5,_,by omega,by omega,rfl⟩
    | exact ⟨l6,⟨l5.length,c4',t12,tr⟩,rfl⟩
    | (refine resS ?_;show _=fmtV (csD (rowC cV [.i 5,.i n1,.i n2,.s s3,.l l4,.l l5,.l l6]));rw [hd];exact fm5)
    | (show 7+(bg (strsOf l5) ⟨#[32]⟩).size≤maxLen;simp only [maxLen];omega)
    | (show (TBL++bg (strsOf l5) ⟨#[32]⟩).size+3≤maxLen;simp only [aM,maxLen];omega)
    | (show (TBL++bg (strsOf l5) ⟨#[32]⟩++TBM).size+(ij l6).size≤maxLen;simp only [aM,maxLen];omega)
    | (show (TBL++bg (strsOf l5) ⟨#[32]⟩++TBM++ij l6).size+1≤maxLen;simp only [aM,maxLen];omega)
 · have ze:=dK n1
   obtain ⟨e0,e1⟩:=okV_err ho rfl
   repeat' first
    | (refine And.intro ?_ ?_)
    | (intro h;cases h)
    | (intro h;rw [h])
    | (intro h)
   all_goals first
    | exact True.intro
    | exact Or.inr rfl
    | exact ⟨_,e0,e1,rfl⟩
    | (refine resS ?_;show _=fmtV (csD (rowC cV [.i 6,.i n1,.i n2,.s s3,.l l4,.l l5,.l l6]));rw [hd];exact fm6)
    | (show 6+(errB n1).size≤maxLen;simp only [maxLen];omega)
theorem zu:∀ n,FOk Tryz.prog T 85 (spGT T cV (fun a=>SmN n a∧okV a=true) fmtV):=by
 intro n
 induction n with
 | zero =>
   refine fok (env:=envL []) (N:=69) tabT ae mixed Tryz.func85 rfl Tryz.call85 Tryz.ntmps85 ?_
   rintro args ⟨a,wa,sm,rfl⟩ _
   exact absurd sm.1.1 (jda _)
 | succ n ih=>exact xx n ih
theorem xk85:FOk Tryz.prog T 85 (spGT T cV (fun a=>SmM a∧okV a=true) fmtV):=FOk.lift zu (fun args ⟨a,wa,sm,h⟩=>⟨wRow a+1,a,wa,⟨⟨jdk _,sm.1⟩,sm.2⟩,h⟩) (fun n=>rfl)
theorem xk51:FOk Tryz.prog T 51 (spGT T cV SmM fmtO):=by
 refine fok (env:=envL [(82,(spGB T cV SmM okV)),(85,(spGT T cV (fun a=>SmM a∧okV a=true) fmtV))]) (N:=8) tabT (aa xk82 (aa xk85 ae)) mixed Tryz.func51 rfl Tryz.call51 Tryz.ntmps51 ?_
 rintro args ⟨a,wa,sm,rfl⟩ hwf
 have hd:csD (rowC cV a)=a:=aw wa
 refine ⟨by simp,?_⟩
 clear hwf
 rw [Tryz.results51]
 repeat' first
  | (refine And.intro ?_ ?_)
  | (intro h;simp only [reduceCtorEq] at h;done)
  | (intro h;rw [h])
  | (intro h)
 all_goals first
  | exact True.intro
  | exact Or.inr rfl
  | exact ⟨_,wa,sm,rfl⟩
  | (have ho:okV a=true:=(by have h:=aI (by assumption:(!okV (csD (rowC cV a)))=false);rwa [hd] at h);first|exact ⟨_,wa,⟨sm,ho⟩,rfl⟩|(refine resS ?_;show fmtV (csD (rowC cV a))=fmtO (csD (rowC cV a));rw [hd];exact (cB ho).symm))
  | (have ho:okV a=false:=(by have h:=bm (by assumption:(!okV (csD (rowC cV a)))=true);rwa [hd] at h);refine resS ?_;show _=fmtO (csD (rowC cV a));rw [hd];exact (oR ho).symm)
end Go.Proofs.YtcllpknipmcolaaGreatDoor.Ab
