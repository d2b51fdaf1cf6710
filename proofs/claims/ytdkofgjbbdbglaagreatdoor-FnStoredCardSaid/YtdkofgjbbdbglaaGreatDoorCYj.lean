/- A part. -/
import Derived.Test.YtdkofgjbbdbglaaGreatDoorCYf
import Derived.Test.YtdkofgjbbdbglaaGreatDoorCYd
import Derived.Test.YtdkofgjbbdbglaaGreatDoorCFi
namespace Go.Proofs.YtdkofgjbbdbglaaGreatDoor.Ab
open Go.RowKit
set_option linter.all false
set_option maxRecDepth 100000
set_option maxHeartbeats 2000000
theorem xk121:FOk Tryz.prog T 121 (spST 124 xX iq):=by
 refine fok (env:=envL [(35,cu),(62,spJoin)]) (N:=48) tabT (aa ok35 (aa ok62 ae)) mixed Tryz.func121 rfl Tryz.call121 Tryz.ntmps121 ?_
 rintro args ⟨a,⟨n,hn,h12,hR⟩,rfl⟩ hwf
 have wa:WfD T (.l 124) (.l a):=arg0 hwf (jdo _)
 have hl:=wa.len
 refine ⟨by simp,?_⟩
 clear hwf
 rw [Tryz.results121]
 repeat' first
  | refine And.intro ?_ ?_
  | (intro h;simp only [reduceCtorEq] at h;done)
  | (intro h;rw [h])
  | intro h
 all_goals first
  | skip
 refine aj (Q:=_) [0,3,4] [] (fun m st=>∃ i:Nat,st=([argS 124 a,.val false [.sl true 9 (ac ((a.take i).map rowT))],.val false [.i .i64 (i:Int)]],[])∧i≤a.length∧m=a.length - i) ?_ ?_
 · exact ⟨rfl,a.length,0,rfl,jc7 _,rfl⟩
 rintro m st ⟨i,rfl,hle,rfl⟩
 repeat' first
  | refine And.intro ?_ ?_
  | (intro h;simp only [reduceCtorEq] at h;done)
  | (intro h;rw [h])
  | intro h
 all_goals first
  | exact True.intro
  | exact Or.inr rfl
  | (have hi:¬ i < a.length:=nltN (by with_reducible assumption)
     have hb:=pM (k:=i) hn h12 hR
     have hj:=eZ ((a.take i).map rowT)
     first
      | exact kg (by omega) (by omega)
      | (refine resS ((kf _).trans ?_);rw [cB hi];rfl)
      | (show 1+(bg (strsOf (ac ((a.take i).map rowT))) COMMA).size≤maxLen;rw [aS];simp only [maxLen];omega)
      | (show (LBR++bg (strsOf (ac ((a.take i).map rowT))) COMMA).size+1≤maxLen;rw [aS,aM];simp only [maxLen];show 1+_+1≤_;omega))
  | skip
 have hi:i < a.length:=ltN (by assumption)
 have wr:WfRow T [.l 3,.l 150] (rAt a i):=wa.row rfl (by rw [jds];exact hi)
 have wB:WfD T (.l 3) (.l ((rAt a i).getD 0 default).rows):=wr.rows (j:=0) rfl
 have lb:=wB.len
 obtain ⟨hc1,_,hc3⟩:=lY (hR i hi)
 refine aj (Q:=_) [0,3,4,5,6] [] (fun m st=>∃ k:Nat,st=([argS 124 a,.val false [.sl true 9 (ac ((a.take i).map rowT))],.val false [.i .i64 (i:Int)],.val false [.sl true 9 (ac ((((rAt a i).getD 0 default).rows.take k).map mh))],.val false [.i .i64 (k:Int)]],[])∧k≤((rAt a i).getD 0 default).rows.length∧m=((rAt a i).getD 0 default).rows.length - k) ?_ ?_
 · exact ⟨rfl,((rAt a i).getD 0 default).rows.length,0,rfl,jc7 _,rfl⟩
 rintro m st ⟨k,rfl,kle,rfl⟩
 repeat' first
  | refine And.intro ?_ ?_
  | (intro h;simp only [reduceCtorEq] at h;done)
  | (intro h;rw [h])
  | intro h
 all_goals first
  | with_reducible exact jdk _
  | (show (i:Int) < _;omega)
  | (have hk:k < ((rAt a i).getD 0 default).rows.length:=ltN (by assumption)
     first
      | exact ⟨_,rfl⟩
      | (show (k:Int) < (((rAt a i).getD 0 default).rows.length:Int);omega)
      | (show (ac _).length+1≤maxLen;rw [aH,jdi,jdp];simp only [maxLen];omega)
      | (show ((ac _).length+1) * 16≤_;rw [aH,jdi,jdp];omega)
      | (show aX _ _;exact rfl)
      | (refine ⟨((rAt a i).getD 0 default).rows.length - (k+1),by omega,k+1,?_,by omega,rfl⟩
         exact ej (f:=fun r z=>(([argS 124 a,.val false [.sl true 9 (ac ((a.take i).map rowT))],.val false [.i .i64 (i:Int)],.val false [.sl true 9 r],.val false [.i .i64 z]],[]):Snap)) (appN hk rfl) (wrapN hk lb)))
  | (have hk:¬ k < ((rAt a i).getD 0 default).rows.length:=nltN (by assumption)
     have hb:=pX (n:=n) (k:=k) (show ((rAt a i).getD 0 default).rows.length≤4 by omega) hc3
     have hj:=eZ ((((rAt a i).getD 0 default).rows.take k).map mh)
     first
      | exact kg (by omega) (by omega)
      | (show 1+(bg (strsOf (ac ((((rAt a i).getD 0 default).rows.take k).map mh))) COMMA).size≤maxLen;rw [aS];simp only [maxLen];omega)
      | (show (LBR++bg (strsOf (ac ((((rAt a i).getD 0 default).rows.take k).map mh))) COMMA).size+1≤maxLen;rw [aS,aM];simp only [maxLen];show 1+_+1≤_;omega)
      | (show (ac _).length+1≤maxLen;rw [aH,jdi,jdp];simp only [maxLen];omega)
      | (show ((ac _).length+1) * 16≤_;rw [aH,jdi,jdp];omega)
      | (show aX _ _;exact rfl)
      | (refine ⟨a.length - (i+1),by omega,i+1,?_,by omega,rfl⟩
         refine ej (f:=fun r z=>(([argS 124 a,.val false [.sl true 9 r],.val false [.i .i64 z]],[]):Snap)) (appN (f:=rowT) hi ?_) (wrapN hi hl)
         refine (kf _).trans ?_
         rw [cB hk]
         rfl))
theorem yb (n:Nat) (hn:FOk Tryz.prog T 94 (spGT T cV (fun a=>SmN n a∧okV a=true) fmtV)):FOk Tryz.prog T 94 (spGT T cV (fun a=>SmN (n+1) a∧okV a=true) fmtV):=by
 refine fok (env:=envL [(35,cu),(62,spJoin),(121,(spST 124 xX iq)),(122,qB),(94,(spGT T cV (fun a=>SmN n a∧okV a=true) fmtV))]) (N:=69) tabT (aa ok35 (aa ok62 (aa xk121 (aa ok122 (aa hn ae))))) mixed Tryz.func94 rfl Tryz.call94 Tryz.ntmps94 ?_
 rintro args ⟨a,wa,⟨sm,ho⟩,rfl⟩ hwf
 have hd:csD (rowC cV a)=a:=aw wa
 have wr:=wa
 refine ⟨by simp,?_⟩
 clear hwf
 rw [Tryz.results94]
 obtain ⟨d0,r0,rfl,w0,wa⟩:=wa.cons'
 obtain ⟨d1,r1,rfl,w1,wa⟩:=wa.cons'
 obtain ⟨d2,r2,rfl,w2,wa⟩:=wa.cons'
 obtain ⟨d3,r3,rfl,w3,wa⟩:=wa.cons'
 obtain ⟨d4,r4,rfl,w4,wa⟩:=wa.cons'
 obtain ⟨d5,r5,rfl,w5,wa⟩:=wa.cons'
 obtain ⟨d6,r6,rfl,w6,wa⟩:=wa.cons'
 obtain rfl:=wa.nil'
 obtain ⟨n0,rfl,_⟩:=w0.int'
 obtain ⟨n1,rfl,_⟩:=w1.int'
 obtain ⟨n2,rfl,_⟩:=w2.int'
 obtain ⟨s3,rfl,_⟩:=w3.str'
 obtain ⟨l4,rfl,_⟩:=w4.sl'
 obtain ⟨l5,rfl,_⟩:=w5.sl'
 obtain ⟨l6,rfl,_⟩:=w6.sl'
 clear w0 w1 w2 w3 w4 w5 w6
 have eR:RNG.size=6:=rfl
 have eC:COMMA.size=2:=rfl
 have eP:RPA.size=1:=rfl
 have eT:TBL.size=7:=rfl
 have eM:TBM.size=3:=rfl
 have eE:ERR.size=6:=rfl
 have eL:LBR.size=1:=rfl
 have eB:RBR.size=1:=rfl
 have hk:n0=1∨n0=2∨n0=3∨n0=4∨n0=5∨n0=6:=okV_kind ho
 rcases hk with rfl|rfl|rfl|rfl|rfl|rfl
 · repeat' first
    | refine And.intro ?_ ?_
    | (intro h;cases h)
    | (intro h;rw [h])
    | intro h
   all_goals first
    | exact True.intro
    | exact Or.inr rfl
    | exact ⟨_,rfl⟩
    | (refine resS ?_;show _=fmtV (csD (rowC cV [.i 1,.i n1,.i n2,.s s3,.l l4,.l l5,.l l6]));rw [hd];exact fm1)
 · have z3:=okTxt_size (okV_txt ho rfl).1
   have z3' : s3.size≤20:=z3
   repeat' first
    | refine And.intro ?_ ?_
    | (intro h;cases h)
    | (intro h;rw [h])
    | intro h
   all_goals first
    | exact True.intro
    | exact Or.inr rfl
    | (refine resS ?_;show _=fmtV (csD (rowC cV [.i 2,.i n1,.i n2,.s s3,.l l4,.l l5,.l l6]));rw [hd];exact fm2)
    | (show 1+s3.size≤maxLen;simp only [maxLen];omega)
    | (show (QUO++s3).size+1≤maxLen;rw [aM];show 1+s3.size+1≤maxLen;simp only [maxLen];omega)
 · have wA:WfD T (.l 74) (.l l4):=wr.rows (j:=4) rfl
   have hl:=wA.len
   obtain ⟨el,el8,_⟩:=dW (okV_list ho rfl).1
   have el8' : l4.length≤8:=el8
   repeat' first
    | refine And.intro ?_ ?_
    | (intro h;cases h)
    | (intro h;rw [h])
    | intro h
   all_goals first
    | skip
   refine aj (Q:=_) [1,3,4] [1] (fun m st=>∃ i:Nat,st=([.ptr 1 1 0,.val false [.sl true 9 (ac ((l4.take i).map fmtV))],.val false [.i .i64 (i:Int)]],[(1,(rowC cV [.i 3,.i n1,.i n2,.s s3,.l l4,.l l5,.l l6]).map fun c=>.val false [c])])∧i≤l4.length∧m=l4.length - i) ?_ ?_
   · exact ⟨rfl,l4.length,0,rfl,jc7 _,rfl⟩
   rintro m st ⟨i,rfl,hle,rfl⟩
   repeat' first
    | refine And.intro ?_ ?_
    | (intro h;simp only [reduceCtorEq] at h;done)
    | (intro h;rw [h])
    | intro h
   all_goals first
    | exact True.intro
    | exact Or.inr rfl
    | with_reducible exact jdk _
    | (have hi:i < l4.length:=ltN (by assumption)
       have we:WfRow T cV (rAt l4 i):=wA.row rfl (by rw [jds];exact hi)
       have hq:csD (rowC cV (rAt l4 i))=(rAt l4 i):=aw we
       first
        | exact ⟨_,we,⟨sm.lst (i:=i) hi,(el i hi).2⟩,rfl⟩
        | (show (i:Int) < (l4.length:Int);omega)
        | (show (ac _).length+1≤maxLen;rw [aH,jdi,jdp];simp only [maxLen];omega)
        | (show ((ac _).length+1) * 16≤_;rw [aH,jdi,jdp];omega)
        | (show aX _ _;exact rfl)
        | (refine ⟨l4.length - (i+1),by omega,i+1,?_,by omega,rfl⟩
           exact ej (f:=fun r z=>(([.ptr 1 1 0,.val false [.sl true 9 r],.val false [.i .i64 z]],[(1,(rowC cV [.i 3,.i n1,.i n2,.s s3,.l l4,.l l5,.l l6]).map fun c=>.val false [c])]):Snap)) (appN (f:=fmtV) hi (congrArg fmtV hq)) (wrapN hi hl)))
    | (have hi:¬ i < l4.length:=nltN (by assumption)
       have hb:=jcD (k:=i) ho rfl
       have hj:=eZ ((l4.take i).map fmtV)
       have hb' : (brk ((l4.take i).map fmtV)).size≤16018:=hb
       first
        | exact kg (by omega) (by omega)
        | (show 1+(bg (strsOf (ac ((l4.take i).map fmtV))) COMMA).size≤maxLen;rw [aS];simp only [maxLen];omega)
        | (show (LBR++bg (strsOf (ac ((l4.take i).map fmtV))) COMMA).size+1≤maxLen;rw [aS,aM];simp only [maxLen];omega)
        | (refine resS ((kf _).trans ?_);rw [cB hi];show _=fmtV (csD (rowC cV [.i 3,.i n1,.i n2,.s s3,.l l4,.l l5,.l l6]));rw [hd];exact fm3))
 · have z1:=co (okV_str ho rfl).1
   have z2:=co (okV_str ho rfl).2
   have z1' : (aB n1).size≤11:=z1
   have z2' : (aB n2).size≤11:=z2
   repeat' first
    | refine And.intro ?_ ?_
    | (intro h;cases h)
    | (intro h;rw [h])
    | intro h
   all_goals first
    | (show av _=true;kernel_rfl)
    | (show ba _ _=true;kernel_rfl)
    | exact True.intro
    | exact Or.inr rfl
    | exact ⟨_,rfl⟩
    | (refine resS ?_;show _=fmtV (csD (rowC cV [.i 4,.i n1,.i n2,.s s3,.l l4,.l l5,.l l6]));rw [hd];exact fm4)
    | (show 6+(aB n1).size≤maxLen;simp only [maxLen];omega)
    | (show (RNG++aB n1).size+2≤maxLen;simp only [aM,maxLen];omega)
    | (show (RNG++aB n1++COMMA).size+(aB n2).size≤maxLen;simp only [aM,maxLen];omega)
    | (show (RNG++aB n1++COMMA++aB n2).size+1≤maxLen;simp only [aM,maxLen];omega)
 · obtain ⟨tc,t12,tr⟩:=lD (okV_tbl ho rfl).1
   have zc:=iF tc
   have c4:=ku tc
   have zc' : (bg (strsOf l5) ⟨#[32]⟩).size≤36:=zc
   have zr:(iq l6).size≤674:=ip c4.2.1 t12 tr
   have c4' : l5.length≤4:=c4.2.1
   repeat' first
    | refine And.intro ?_ ?_
    | (intro h;cases h)
    | (intro h;rw [h])
    | intro h
   all_goals first
    | (show av _=true;kernel_rfl)
    | (show ba _ _=true;kernel_rfl)
    | exact True.intro
    | exact Or.inr rfl
    | exact ⟨l5,_,by omega,by omega,rfl⟩
    | exact ⟨l6,⟨l5.length,c4',t12,tr⟩,rfl⟩
    | (refine resS ?_;show _=fmtV (csD (rowC cV [.i 5,.i n1,.i n2,.s s3,.l l4,.l l5,.l l6]));rw [hd];exact fm5)
    | (show 7+(bg (strsOf l5) ⟨#[32]⟩).size≤maxLen;simp only [maxLen];omega)
    | (show (TBL++bg (strsOf l5) ⟨#[32]⟩).size+3≤maxLen;simp only [aM,maxLen];omega)
    | (show (TBL++bg (strsOf l5) ⟨#[32]⟩++TBM).size+(iq l6).size≤maxLen;simp only [aM,maxLen];omega)
    | (show (TBL++bg (strsOf l5) ⟨#[32]⟩++TBM++iq l6).size+1≤maxLen;simp only [aM,maxLen];omega)
 · have ze:=dN n1
   obtain ⟨e0,e1⟩:=okV_err ho rfl
   repeat' first
    | refine And.intro ?_ ?_
    | (intro h;cases h)
    | (intro h;rw [h])
    | intro h
   all_goals first
    | exact True.intro
    | exact Or.inr rfl
    | exact ⟨_,e0,e1,rfl⟩
    | (refine resS ?_;show _=fmtV (csD (rowC cV [.i 6,.i n1,.i n2,.s s3,.l l4,.l l5,.l l6]));rw [hd];exact fm6)
    | (show 6+(errB n1).size≤maxLen;simp only [maxLen];omega)
theorem z7:∀ n,FOk Tryz.prog T 94 (spGT T cV (fun a=>SmN n a∧okV a=true) fmtV):=by
 intro n
 induction n with
 | zero =>
   refine fok (env:=envL []) (N:=69) tabT ae mixed Tryz.func94 rfl Tryz.call94 Tryz.ntmps94 ?_
   rintro args ⟨a,wa,sm,rfl⟩ _
   exact absurd sm.1.1 (jdW _)
 | succ n ih=>exact yb n ih
theorem xk94:FOk Tryz.prog T 94 (spGT T cV (fun a=>SmM a∧okV a=true) fmtV):=FOk.lift z7 (fun args ⟨a,wa,sm,h⟩=>⟨wRow a+1,a,wa,⟨⟨jd6 _,sm.1⟩,sm.2⟩,h⟩) (fun n=>rfl)
theorem xk61:FOk Tryz.prog T 61 (spGT T cV SmM fmtO):=by
 refine fok (env:=envL [(91,(spGB T cV SmM okV)),(94,(spGT T cV (fun a=>SmM a∧okV a=true) fmtV))]) (N:=8) tabT (aa xk91 (aa xk94 ae)) mixed Tryz.func61 rfl Tryz.call61 Tryz.ntmps61 ?_
 rintro args ⟨a,wa,sm,rfl⟩ hwf
 have hd:csD (rowC cV a)=a:=aw wa
 refine ⟨by simp,?_⟩
 clear hwf
 rw [Tryz.results61]
 repeat' first
  | refine And.intro ?_ ?_
  | (intro h;simp only [reduceCtorEq] at h;done)
  | (intro h;rw [h])
  | intro h
 all_goals first
  | exact True.intro
  | exact Or.inr rfl
  | exact ⟨_,wa,sm,rfl⟩
  | (have ho:okV a=true:=(by have h:=aE (by assumption:(!okV (csD (rowC cV a)))=false);rwa [hd] at h);first|exact ⟨_,wa,⟨sm,ho⟩,rfl⟩|(refine resS ?_;show fmtV (csD (rowC cV a))=fmtO (csD (rowC cV a));rw [hd];exact (cD ho).symm))
  | (have ho:okV a=false:=(by have h:=bi (by assumption:(!okV (csD (rowC cV a)))=true);rwa [hd] at h);refine resS ?_;show _=fmtO (csD (rowC cV a));rw [hd];exact (o7 ho).symm)
theorem xk88:FOk Tryz.prog T 88 (spST 9 jc4 (fun l=>brk (strsOf l))):=by
 refine fok (env:=envL [(56,spJoin)]) (N:=7) tabT (aa ok56 ae) mixed Tryz.func88 rfl Tryz.call88 Tryz.ntmps88 ?_
 rintro args ⟨a,⟨hl,hb⟩,rfl⟩ hwf
 have hj:=eZ (strsOf a)
 have hz:(bg (strsOf a) COMMA).size≤1099511627774:=by omega
 refine ⟨by simp,?_⟩
 clear hwf
 rw [Tryz.results88]
 repeat' first
  | refine And.intro ?_ ?_
  | (intro h;simp only [reduceCtorEq] at h;done)
  | (intro h;rw [h])
  | intro h
 all_goals first
  | exact True.intro
  | exact Or.inr rfl
  | (refine ⟨a,_,by omega,?_,rfl⟩;show (bg (strsOf a) COMMA).size≤_;omega)
  | (show 1+(bg (strsOf a) COMMA).size≤maxLen;simp only [maxLen];omega)
  | (show (LBR++bg (strsOf a) COMMA).size+1≤maxLen;rw [aM];show 1+(bg (strsOf a) COMMA).size+1≤maxLen;simp only [maxLen];omega)
  | exact rfl
theorem ye (n:Nat) (hn:FOk Tryz.prog T 55 (spGT T cV (SmN n) fmtO)):FOk Tryz.prog T 55 (spGT T cV (SmN (n+1)) fmtO):=by
 refine fok (env:=envL [(54,(spGB T cV SmM okV)),(31,cu),(87,qB),(55,(spGT T cV (SmN n) fmtO)),(88,(spST 9 jc4 (fun l=>brk (strsOf l)))),(56,spJoin)]) (N:=100) tabT (aa xk54 (aa ok31 (aa ok87 (aa hn (aa xk88 (aa ok56 ae)))))) mixed Tryz.func55 rfl Tryz.call55 Tryz.ntmps55 ?_
 rintro args ⟨a,wa,sm,rfl⟩ hwf
 have hd:csD (rowC cV a)=a:=aw wa
 have wr:=wa
 refine ⟨by simp,?_⟩
 clear hwf
 rw [Tryz.results55]
 cases ho:okV a with
 | false =>
   have hno:okV (csD (rowC cV a))=false:=by rw [hd];exact ho
   repeat' first
    | refine And.intro ?_ ?_
    | (intro h;exact absurd (h.symm.trans (notF hno)) Bool.noConfusion)
    | (intro h;rw [h])
    | intro h
   all_goals first
    | exact True.intro
    | exact Or.inr rfl
    | exact ⟨_,wa,sm.2,rfl⟩
    | (refine resS ?_;show _=fmtO (csD (rowC cV a));rw [hd,o7 ho])
 | true =>
 have hyes:okV (csD (rowC cV a))=true:=by rw [hd];exact ho
 have hnn:(!okV (csD (rowC cV a)))=false:=notT hyes
 obtain ⟨d0,r0,rfl,w0,wa⟩:=wa.cons'
 obtain ⟨d1,r1,rfl,w1,wa⟩:=wa.cons'
 obtain ⟨d2,r2,rfl,w2,wa⟩:=wa.cons'
 obtain ⟨d3,r3,rfl,w3,wa⟩:=wa.cons'
 obtain ⟨d4,r4,rfl,w4,wa⟩:=wa.cons'
 obtain ⟨d5,r5,rfl,w5,wa⟩:=wa.cons'
 obtain ⟨d6,r6,rfl,w6,wa⟩:=wa.cons'
 obtain rfl:=wa.nil'
 obtain ⟨n0,rfl,_⟩:=w0.int'
 obtain ⟨n1,rfl,_⟩:=w1.int'
 obtain ⟨n2,rfl,_⟩:=w2.int'
 obtain ⟨s3,rfl,_⟩:=w3.str'
 obtain ⟨l4,rfl,_⟩:=w4.sl'
 obtain ⟨l5,rfl,_⟩:=w5.sl'
 obtain ⟨l6,rfl,_⟩:=w6.sl'
 clear w0 w1 w2 w3 w4 w5 w6
 have eR:RNG.size=6:=rfl
 have eC:COMMA.size=2:=rfl
 have eP:RPA.size=1:=rfl
 have eT:TBL.size=7:=rfl
 have eM:TBM.size=3:=rfl
 have eE:ERR.size=6:=rfl
 have eL:LBR.size=1:=rfl
 have eB:RBR.size=1:=rfl
 have hk:n0=1∨n0=2∨n0=3∨n0=4∨n0=5∨n0=6:=okV_kind ho
 have pp:(n0=3∨l4.length=0)∧(n0=5∨(l5.length=0∧l6.length=0))∧_:=okV_p ho
 rcases hk with rfl|rfl|rfl|rfl|rfl|rfl
 · repeat' first
    | refine And.intro ?_ ?_
    | (intro h;exact absurd (h.symm.trans hnn) Bool.noConfusion)
    | (intro h;cases h)
    | (intro h;rw [h])
    | intro h
   all_goals first
    | exact True.intro
    | exact Or.inr rfl
    | exact ⟨_,wr,sm.2,rfl⟩
    | exact ⟨_,rfl⟩
    | (refine resS ?_;show _=fmtO (csD (rowC cV [.i 1,.i n1,.i n2,.s s3,.l l4,.l l5,.l l6]));rw [hd,cD ho];exact fm1)
 · have z3:s3.size≤20:=okTxt_size (okV_txt ho rfl).1
   repeat' first
    | refine And.intro ?_ ?_
    | (intro h;exact absurd (h.symm.trans hnn) Bool.noConfusion)
    | (intro h;cases h)
    | (intro h;rw [h])
    | intro h
   all_goals first
    | exact True.intro
    | exact Or.inr rfl
    | exact ⟨_,wr,sm.2,rfl⟩
    | (refine resS ?_;show _=fmtO (csD (rowC cV [.i 2,.i n1,.i n2,.s s3,.l l4,.l l5,.l l6]));rw [hd,cD ho];exact fm2)
    | (show 1+s3.size≤maxLen;simp only [maxLen];omega)
    | (show (QUO++s3).size+1≤maxLen;rw [aM];show 1+s3.size+1≤maxLen;simp only [maxLen];omega)
 · obtain ⟨z5,z6⟩:=pp.2.1.resolve_left (by decide)
   obtain rfl:=jdD.1 z5
   obtain rfl:=jdD.1 z6
   have wA:WfD T (.l 74) (.l l4):=wr.rows (j:=4) rfl
   have hl:=wA.len
   obtain ⟨el,el8,_⟩:=dW (okV_list ho rfl).1
   have el8' : l4.length≤8:=el8
   have hmap:l4.map fmtO=l4.map fmtV:=tA fmtO fmtV [] l4 fun i hi=>cD (el i hi).2
   repeat' first
    | refine And.intro ?_ ?_
    | (intro h;exact absurd (h.symm.trans hnn) Bool.noConfusion)
    | (intro h;cases h)
    | (intro h;rw [h])
    | intro h
   all_goals first
    | exact ⟨_,wr,sm.2,rfl⟩
    | skip
   refine aj (Q:=_) [1,3,47,48,49] [1] (fun m st=>∃ i:Nat,st=([.ptr 1 1 0,.val false [.sl true 9 (ac ((l4.take i).map fmtO))],argS 74 l4,.val false [.i .i64 l4.length],.val false [.i .i64 (i:Int)]],[(1,(rowC cV [.i 3,.i n1,.i n2,.s s3,.l l4,.l [],.l []]).map fun c=>.val false [c])])∧i≤l4.length∧m=l4.length - i) ?_ ?_
   · exact ⟨rfl,l4.length,0,rfl,jc7 _,rfl⟩
   rintro m st ⟨i,rfl,hle,rfl⟩
   repeat' first
    | refine And.intro ?_ ?_
    | (intro h;simp only [reduceCtorEq] at h;done)
    | (intro h;rw [h])
    | intro h
   all_goals first
    | with_reducible exact jdk _
    | (have hi:i < l4.length:=ltN (by assumption)
       have we:WfRow T cV (rAt l4 i):=wA.row rfl (by rw [jds];exact hi)
       have hq:csD (rowC cV (rAt l4 i))=(rAt l4 i):=aw we
       first
        | exact ⟨_,we,sm.lst (i:=i) hi,rfl⟩
        | (show (i:Int) < (l4.length:Int);omega)
        | (show (ac _).length+1≤maxLen;rw [aH,jdi,jdp];simp only [maxLen];omega)
        | (show ((ac _).length+1) * 16≤_;rw [aH,jdi,jdp];omega)
        | (show aX _ _;exact rfl)
        | (refine ⟨l4.length - (i+1),by omega,i+1,?_,by omega,rfl⟩
           exact ej (f:=fun r z=>(([.ptr 1 1 0,.val false [.sl true 9 r],argS 74 l4,.val false [.i .i64 l4.length],.val false [.i .i64 z]],[(1,(rowC cV [.i 3,.i n1,.i n2,.s s3,.l l4,.l [],.l []]).map fun c=>.val false [c])]):Snap)) (appN (f:=fmtO) hi (congrArg fmtO hq)) (wrapN hi hl)))
    | skip
   have hi:¬ i < l4.length:=nltN (by assumption)
   have hb:=zS (k:=i) el8'
   refine aj (Q:=_) [1,3,60,61,62] [1] (fun m st=>st=([.ptr 1 1 0,.val false [.sl true 9 (ac ((l4.take i).map fmtO))],argS 124 [],.val false [.i .i64 (([]:List (List D)).length:Int)],.val false [.i .i64 0]],[(1,(rowC cV [.i 3,.i n1,.i n2,.s s3,.l l4,.l [],.l []]).map fun c=>.val false [c])])) ?_ ?_
   · exact ⟨rfl,0,rfl⟩
   rintro m st rfl
   repeat' first
    | refine And.intro ?_ ?_
    | (intro h;simp only [reduceCtorEq] at h;done)
    | (intro h;rw [h])
    | intro h
   all_goals first
    | exact True.intro
    | exact Or.inr rfl
    | exact absurd (jc6 (by assumption:decide ((0:Int) < (([]:List (List D)).length:Int))=true)) (by decide)
    | (refine ⟨ac ((l4.take i).map fmtO),⟨by rw [aH,jdi,jdp];omega,by rw [aS];omega⟩,rfl⟩)
    | (refine resS ?_
       show brk (strsOf (ac ((l4.take i).map fmtO)))=fmtO (csD (rowC cV [.i 3,.i n1,.i n2,.s s3,.l l4,.l [],.l []]))
       rw [hd,cD ho,aS,cB hi,hmap]
       exact fm3)
 · have z1:(aB n1).size≤11:=co (okV_str ho rfl).1
   have z2:(aB n2).size≤11:=co (okV_str ho rfl).2
   repeat' first
    | refine And.intro ?_ ?_
    | (intro h;exact absurd (h.symm.trans hnn) Bool.noConfusion)
    | (intro h;cases h)
    | (intro h;rw [h])
    | intro h
   all_goals first
    | (show av _=true;kernel_rfl)
    | (show ba _ _=true;kernel_rfl)
    | exact True.intro
    | exact Or.inr rfl
    | exact ⟨_,wr,sm.2,rfl⟩
    | exact ⟨_,rfl⟩
    | (refine resS ?_;show _=fmtO (csD (rowC cV [.i 4,.i n1,.i n2,.s s3,.l l4,.l l5,.l l6]));rw [hd,cD ho];exact fm4)
    | (show 6+(aB n1).size≤maxLen;simp only [maxLen];omega)
    | (show (RNG++aB n1).size+2≤maxLen;simp only [aM,maxLen];omega)
    | (show (RNG++aB n1++COMMA).size+(aB n2).size≤maxLen;simp only [aM,maxLen];omega)
    | (show (RNG++aB n1++COMMA++aB n2).size+1≤maxLen;simp only [aM,maxLen];omega)
 · have z4:l4.length=0:=pp.1.resolve_left (by decide)
   obtain rfl:=jdD.1 z4
   obtain ⟨tc,t12,tr⟩:=lD (okV_tbl ho rfl).1
   have zc:=iF tc
   have c4:=ku tc
   have zc' : (bg (strsOf l5) ⟨#[32]⟩).size≤36:=zc
   have zr:(iq l6).size≤674:=ip c4.2.1 t12 tr
   have c4' : l5.length≤4:=c4.2.1
   have t12' : l6.length≤12:=t12
   have wA:WfD T (.l 124) (.l l6):=wr.rows (j:=6) rfl
   have hl:=wA.len
   repeat' first
    | refine And.intro ?_ ?_
    | (intro h;exact absurd (h.symm.trans hnn) Bool.noConfusion)
    | (intro h;cases h)
    | (intro h;rw [h])
    | intro h
   all_goals first
    | exact ⟨_,wr,sm.2,rfl⟩
    | skip
   refine aj (Q:=_) [1,3,47,48,49] [1] (fun m st=>st=([.ptr 1 1 0,.val false [.sl true 9 []],argS 74 [],.val false [.i .i64 (([]:List (List D)).length:Int)],.val false [.i .i64 0]],[(1,(rowC cV [.i 5,.i n1,.i n2,.s s3,.l [],.l l5,.l l6]).map fun c=>.val false [c])])) ?_ ?_
   · exact ⟨rfl,0,rfl⟩
   rintro m st rfl
   repeat' first
    | refine And.intro ?_ ?_
    | (intro h;simp only [reduceCtorEq] at h;done)
    | (intro h;rw [h])
    | intro h
   all_goals first
    | exact absurd (jc6 (by assumption:decide ((0:Int) < (([]:List (List D)).length:Int))=true)) (by decide)
    | skip
   refine aj (Q:=_) [1,3,60,61,62] [1] (fun m st=>∃ i:Nat,st=([.ptr 1 1 0,.val false [.sl true 9 (ac ((l6.take i).map rowT))],argS 124 l6,.val false [.i .i64 l6.length],.val false [.i .i64 (i:Int)]],[(1,(rowC cV [.i 5,.i n1,.i n2,.s s3,.l [],.l l5,.l l6]).map fun c=>.val false [c])])∧i≤l6.length∧m=l6.length - i) ?_ ?_
   · exact ⟨rfl,l6.length,0,rfl,jc7 _,rfl⟩
   rintro m st ⟨i,rfl,hle,rfl⟩
   repeat' first
    | refine And.intro ?_ ?_
    | (intro h;simp only [reduceCtorEq] at h;done)
    | (intro h;rw [h])
    | intro h
   all_goals first
    | exact True.intro
    | exact Or.inr rfl
    | with_reducible exact jdk _
    | (have hi:¬ i < l6.length:=nltN (by assumption)
       have hb:=pM (k:=i) c4.2.1 t12 tr
       have hb' : (brk ((l6.take i).map rowT)).size≤674:=hb
       have hr:brk (strsOf (ac ((l6.take i).map rowT)))=iq l6:=by rw [aS,cB hi];rfl
       first
        | exact ⟨l5,_,by omega,by omega,rfl⟩
        | exact absurd (by assumption:((5:Int) == 5)=false) (by decide)
        | exact ⟨ac ((l6.take i).map rowT),⟨by rw [aH,jdi,jdp];omega,by rw [aS];omega⟩,rfl⟩
        | (show 7+(bg (strsOf l5) ⟨#[32]⟩).size≤maxLen;simp only [maxLen];omega)
        | (show (TBL++bg (strsOf l5) ⟨#[32]⟩).size+3≤maxLen;simp only [aM,maxLen];omega)
        | (show (TBL++bg (strsOf l5) ⟨#[32]⟩++TBM).size+(brk (strsOf (ac ((l6.take i).map rowT)))).size≤maxLen;rw [hr];simp only [aM,maxLen];omega)
        | (show (TBL++bg (strsOf l5) ⟨#[32]⟩++TBM++brk (strsOf (ac ((l6.take i).map rowT)))).size+1≤maxLen;rw [hr];simp only [aM,maxLen];omega)
        | (refine resS ?_
           show TBL++bg (strsOf l5) ⟨#[32]⟩++TBM++brk (strsOf (ac ((l6.take i).map rowT)))++RPA=fmtO (csD (rowC cV [.i 5,.i n1,.i n2,.s s3,.l [],.l l5,.l l6]))
           rw [hd,cD ho,hr]
           exact fm5))
    | (have hi:i < l6.length:=ltN (by assumption)
       first
        | (show (i:Int) < (l6.length:Int);omega))
    | skip
   have hi:i < l6.length:=ltN (by assumption)
   have we:WfRow T [.l 3,.l 150] (rAt l6 i):=wA.row rfl (by rw [jds];exact hi)
   have wB:WfD T (.l 3) (.l ((rAt l6 i).getD 0 default).rows):=we.rows (j:=0) rfl
   have lb:=wB.len
   obtain ⟨hc1,_,hc3⟩:=lY (tr i hi)
   have hc1' : ((rAt l6 i).getD 0 default).rows.length=l5.length:=hc1
   refine aj (Q:=_) [1,3,60,61,62,7,8,68,69,70] [1,7] (fun m st=>∃ k:Nat,st=([.ptr 1 1 0,.val false [.sl true 9 (ac ((l6.take i).map rowT))],argS 124 l6,.val false [.i .i64 l6.length],.val false [.i .i64 (i:Int)],.ptr 7 1 0,.val false [.sl true 9 (ac ((((rAt l6 i).getD 0 default).rows.take k).map mh))],argS 3 ((rAt l6 i).getD 0 default).rows,.val false [.i .i64 ((rAt l6 i).getD 0 default).rows.length],.val false [.i .i64 (k:Int)]],[(1,(rowC cV [.i 5,.i n1,.i n2,.s s3,.l [],.l l5,.l l6]).map fun c=>.val false [c]),(1,(rowC [.l 3,.l 150] (rAt l6 i)).map fun c=>.val false [c])])∧k≤((rAt l6 i).getD 0 default).rows.length∧m=((rAt l6 i).getD 0 default).rows.length - k) ?_ ?_
   · exact ⟨rfl,((rAt l6 i).getD 0 default).rows.length,0,rfl,jc7 _,rfl⟩
   rintro m st ⟨k,rfl,kle,rfl⟩
   repeat' first
    | refine And.intro ?_ ?_
    | (intro h;simp only [reduceCtorEq] at h;done)
    | (intro h;rw [h])
    | intro h
   all_goals first
    | with_reducible exact jdk _
    | (have hk:k < ((rAt l6 i).getD 0 default).rows.length:=ltN (by assumption)
       first
        | exact ⟨_,rfl⟩
        | (show (k:Int) < (((rAt l6 i).getD 0 default).rows.length:Int);omega)
        | (show (ac _).length+1≤maxLen;rw [aH,jdi,jdp];simp only [maxLen];omega)
        | (show ((ac _).length+1) * 16≤_;rw [aH,jdi,jdp];omega)
        | (show aX _ _;exact rfl)
        | (refine ⟨((rAt l6 i).getD 0 default).rows.length - (k+1),by omega,k+1,?_,by omega,rfl⟩
           exact ej (f:=fun r z=>(([.ptr 1 1 0,.val false [.sl true 9 (ac ((l6.take i).map rowT))],argS 124 l6,.val false [.i .i64 l6.length],.val false [.i .i64 (i:Int)],.ptr 7 1 0,.val false [.sl true 9 r],argS 3 ((rAt l6 i).getD 0 default).rows,.val false [.i .i64 ((rAt l6 i).getD 0 default).rows.length],.val false [.i .i64 z]],[(1,(rowC cV [.i 5,.i n1,.i n2,.s s3,.l [],.l l5,.l l6]).map fun c=>.val false [c]),(1,(rowC [.l 3,.l 150] (rAt l6 i)).map fun c=>.val false [c])]):Snap)) (appN hk rfl) (wrapN hk lb)))
    | (have hk:¬ k < ((rAt l6 i).getD 0 default).rows.length:=nltN (by assumption)
       have hb:=pX (n:=l5.length) (k:=k) (show ((rAt l6 i).getD 0 default).rows.length≤4 by omega) hc3
       first
        | exact ⟨ac ((((rAt l6 i).getD 0 default).rows.take k).map mh),⟨by rw [aH,jdi,jdp];omega,by rw [aS];omega⟩,rfl⟩
        | (show (ac _).length+1≤maxLen;rw [aH,jdi,jdp];simp only [maxLen];omega)
        | (show ((ac _).length+1) * 16≤_;rw [aH,jdi,jdp];omega)
        | (show aX _ _;exact rfl)
        | (refine ⟨l6.length - (i+1),by omega,i+1,?_,by omega,rfl⟩
           refine ej (f:=fun r z=>(([.ptr 1 1 0,.val false [.sl true 9 r],argS 124 l6,.val false [.i .i64 l6.length],.val false [.i .i64 z]],[(1,(rowC cV [.i 5,.i n1,.i n2,.s s3,.l [],.l l5,.l l6]).map fun c=>.val false [c])]):Snap)) (appN (f:=rowT) hi ?_) (wrapN hi hl)
           show brk (strsOf (ac ((((rAt l6 i).getD 0 default).rows.take k).map mh)))=rowT (rAt l6 i)
           rw [aS,cB hk]
           rfl))
 · have ze:=dN n1
   obtain ⟨e0,e1⟩:=okV_err ho rfl
   repeat' first
    | refine And.intro ?_ ?_
    | (intro h;exact absurd (h.symm.trans hnn) Bool.noConfusion)
    | (intro h;cases h)
    | (intro h;rw [h])
    | intro h
   all_goals first
    | exact True.intro
    | exact Or.inr rfl
    | exact ⟨_,wr,sm.2,rfl⟩
    | exact ⟨_,e0,e1,rfl⟩
    | (refine resS ?_;show _=fmtO (csD (rowC cV [.i 6,.i n1,.i n2,.s s3,.l l4,.l l5,.l l6]));rw [hd,cD ho];exact fm6)
    | (show 6+(errB n1).size≤maxLen;simp only [maxLen];omega)
theorem jaa:∀ n,FOk Tryz.prog T 55 (spGT T cV (SmN n) fmtO):=by
 intro n
 induction n with
 | zero =>
   refine fok (env:=envL []) (N:=100) tabT ae mixed Tryz.func55 rfl Tryz.call55 Tryz.ntmps55 ?_
   rintro args ⟨a,wa,sm,rfl⟩ _
   exact absurd sm.1 (jdW _)
 | succ n ih=>exact ye n ih
theorem xk55:FOk Tryz.prog T 55 (spGT T cV SmM fmtO):=FOk.lift jaa (fun args ⟨a,wa,sm,h⟩=>⟨wRow a+1,a,wa,⟨jd6 _,sm⟩,h⟩) (fun n=>rfl)
end Go.Proofs.YtdkofgjbbdbglaaGreatDoor.Ab
