/- Texts of values in the reference, exactly: printed by a program of this -/
import Derived.Test.YtkpnfbdoaljkpaaGreatDoorCYf
import Derived.Test.YtkpnfbdoaljkpaaGreatDoorCYd
import Derived.Test.YtkpnfbdoaljkpaaGreatDoorCFi
namespace Go.Proofs.YtkpnfbdoaljkpaaGreatDoor.Ab
open Go.RowKit
set_option linter.all false
set_option maxRecDepth 100000
set_option maxHeartbeats 2000000
theorem xk114:FOk Tryz.prog T 114 (spST 9 jaR (fun l=>brk (strsOf l))):=by
 refine fok (env:=envL [(115,dB)]) (N:=7) tabT (aa ok115 ae) mixed Tryz.func114 rfl Tryz.call114 Tryz.ntmps114 ?_
 rintro args ⟨a,⟨hl,hb⟩,rfl⟩ hwf
 have hj:=rT (strsOf a)
 have hz:(bJ (strsOf a) COMMA).size≤1099511627774:=by omega
 refine ⟨by simp,?_⟩
 clear hwf
 rw [Tryz.results114]
 repeat' first
  | (refine And.intro ?_ ?_)
  | (intro h;simp only [reduceCtorEq] at h;done)
  | (intro h;rw [h])
  | (intro h)
 all_goals first
  | (show ac _=true;kernel_rfl)|(show aj _ _=true;kernel_rfl)|exact True.intro|exact Or.inr rfl|exact Or.inl rfl
  | (refine ⟨a,_,by omega,?_,rfl⟩;show (bJ (strsOf a) COMMA).size≤_;omega)
  | (show 1+(bJ (strsOf a) COMMA).size≤maxLen;simp only [maxLen];omega)
  | (show (LBR++bJ (strsOf a) COMMA).size+1≤maxLen;rw [aY];show 1+(bJ (strsOf a) COMMA).size+1≤maxLen;simp only [maxLen];omega)
  | exact rfl
  | skip
theorem vG (n:Nat) (hn:FOk Tryz.prog T 54 (spGT T cV (SmN n) fmtO)):FOk Tryz.prog T 54 (spGT T cV (SmN (n+1)) fmtO):=by
 refine fok (env:=envL [(112,(spGB T cV SmM okV)),(87,cY),(113,qP),(54,(spGT T cV (SmN n) fmtO)),(114,(spST 9 jaR (fun l=>brk (strsOf l)))),(115,dB)]) (N:=100) tabT (aa xk112 (aa ok87 (aa ok113 (aa hn (aa xk114 (aa ok115 ae)))))) mixed Tryz.func54 rfl Tryz.call54 Tryz.ntmps54 ?_
 rintro args ⟨a,wa,sm,rfl⟩ hwf
 have hd:csD (rowC cV a)=a:=aC wa
 have wr:=wa
 refine ⟨by simp,?_⟩
 clear hwf
 rw [Tryz.results54]
 cases ho:okV a with
 | false =>
   have hno:okV (csD (rowC cV a))=false:=by rw [hd];exact ho
   repeat' first
    | (refine And.intro ?_ ?_)
    | (intro h;exact absurd (h.symm.trans (notF hno)) Bool.noConfusion)
    | (intro h;rw [h])
    | (intro h)
   all_goals first
    | (show ac _=true;kernel_rfl)|(show aj _ _=true;kernel_rfl)|exact True.intro|exact Or.inr rfl|exact Or.inl rfl
    | exact ⟨_,wa,sm.2,rfl⟩
    | (refine resS ?_;show _=fmtO (csD (rowC cV a));rw [hd,sA ho])
    | skip
 | true =>
 have hyes:okV (csD (rowC cV a))=true:=by rw [hd];exact ho
 have hnn:(!okV (csD (rowC cV a)))=false:=notT hyes
 obtain ⟨d0,r0,rfl,w0,wa⟩:=wa.cons'
 obtain ⟨d1,r1,rfl,w1,wa⟩:=wa.cons'
 obtain ⟨d2,r2,rfl,w2,wa⟩:=wa.cons'
 obtain ⟨d3,r3,rfl,w3,wa⟩:=wa.cons'
 obtain ⟨d4,r4,rfl,w4,wa⟩:=wa.cons'
 obtain ⟨d5,r5,rfl,w5,wa⟩:=wa.cons'
 obtain ⟨d6,r6,rfl,w6,wa⟩:=wa.cons'
 obtain rfl:=wa.nil'
 obtain ⟨n0,rfl,_⟩:=w0.int'
 obtain ⟨n1,rfl,_⟩:=w1.int'
 obtain ⟨n2,rfl,_⟩:=w2.int'
 obtain ⟨s3,rfl,_⟩:=w3.str'
 obtain ⟨l4,rfl,_⟩:=w4.sl'
 obtain ⟨l5,rfl,_⟩:=w5.sl'
 obtain ⟨l6,rfl,_⟩:=w6.sl'
 clear w0 w1 w2 w3 w4 w5 w6
 have eR:RNG.size=6:=rfl
 have eC:COMMA.size=2:=rfl
 have eP:RPA.size=1:=rfl
 have eT:TBL.size=7:=rfl
 have eM:TBM.size=3:=rfl
 have eE:ERR.size=6:=rfl
 have eL:LBR.size=1:=rfl
 have eB:RBR.size=1:=rfl
 have hk:n0=1∨n0=2∨n0=3∨n0=4∨n0=5∨n0=6:=okV_kind ho
 have pp:(n0=3∨l4.length=0)∧(n0=5∨(l5.length=0∧l6.length=0))∧_:=okV_p ho
 rcases hk with rfl|rfl|rfl|rfl|rfl|rfl
 · repeat' first
    | (refine And.intro ?_ ?_)
    | (intro h;exact absurd (h.symm.trans hnn) Bool.noConfusion)
    | (intro h;cases h)
    | (intro h;rw [h])
    | (intro h)
   all_goals first
    | (show ac _=true;kernel_rfl)|(show aj _ _=true;kernel_rfl)|exact True.intro|exact Or.inr rfl|exact Or.inl rfl
    | exact ⟨_,wr,sm.2,rfl⟩
    | exact ⟨_,rfl⟩
    | (refine resS ?_;show _=fmtO (csD (rowC cV [.i 1,.i n1,.i n2,.s s3,.l l4,.l l5,.l l6]));rw [hd,cL ho];exact fm1)
    | skip
 · have z3:s3.size≤20:=okTxt_size (okV_txt ho rfl).1
   repeat' first
    | (refine And.intro ?_ ?_)
    | (intro h;exact absurd (h.symm.trans hnn) Bool.noConfusion)
    | (intro h;cases h)
    | (intro h;rw [h])
    | (intro h)
   all_goals first
    | (show ac _=true;kernel_rfl)|(show aj _ _=true;kernel_rfl)|exact True.intro|exact Or.inr rfl|exact Or.inl rfl
    | exact ⟨_,wr,sm.2,rfl⟩
    | (refine resS ?_;show _=fmtO (csD (rowC cV [.i 2,.i n1,.i n2,.s s3,.l l4,.l l5,.l l6]));rw [hd,cL ho];exact fm2)
    | (show 1+s3.size≤maxLen;simp only [maxLen];omega)
    | (show (QUO++s3).size+1≤maxLen;rw [aY];show 1+s3.size+1≤maxLen;simp only [maxLen];omega)
    | skip
 · obtain ⟨z5,z6⟩:=pp.2.1.resolve_left (by decide)
   obtain rfl:=jbq.1 z5
   obtain rfl:=jbq.1 z6
   have wA:WfD T (.l 53) (.l l4):=wr.rows (j:=4) rfl
   have hl:=wA.len
   obtain ⟨el,el8,_⟩:=gp (okV_list ho rfl).1
   have el8' : l4.length≤8:=el8
   have hmap:l4.map fmtO=l4.map fmtV:=rL fmtO fmtV [] l4 fun i hi=>cL (el i hi).2
   repeat' first
    | (refine And.intro ?_ ?_)
    | (intro h;exact absurd (h.symm.trans hnn) Bool.noConfusion)
    | (intro h;cases h)
    | (intro h;rw [h])
    | (intro h)
   all_goals first
    | (show ac _=true;kernel_rfl)|(show aj _ _=true;kernel_rfl)|exact True.intro|exact Or.inr rfl|exact Or.inl rfl
    | exact ⟨_,wr,sm.2,rfl⟩
    | skip
   refine ar (Q:=_) [1,3,47,48,49] [1] (fun m st=>∃ i:Nat,st=([.ptr 1 1 0,.val false [.sl true 9 (af ((l4.take i).map fmtO))],argS 53 l4,.val false [.i .i64 l4.length],.val false [.i .i64 (i:Int)]],[(1,(rowC cV [.i 3,.i n1,.i n2,.s s3,.l l4,.l [],.l []]).map fun c=>.val false [c])])∧i≤l4.length∧m=l4.length - i) ?_ ?_
   · exact ⟨rfl,l4.length,0,rfl,jaU _,rfl⟩
   rintro m st ⟨i,rfl,hle,rfl⟩
   repeat' first
    | (refine And.intro ?_ ?_)
    | (intro h;simp only [reduceCtorEq] at h;done)
    | (intro h;rw [h])
    | (intro h)
   all_goals first
    | (show ac _=true;kernel_rfl)|(show aj _ _=true;kernel_rfl)|exact True.intro|exact Or.inr rfl|exact Or.inl rfl
    | with_reducible exact ja7 _
    | (have hi:i < l4.length:=ltN (by assumption)
       have we:WfRow T cV (rAt l4 i):=wA.row rfl (by rw [jbf];exact hi)
       have hq:csD (rowC cV (rAt l4 i))=(rAt l4 i):=aC we
       first
        | exact ⟨_,we,sm.lst (i:=i) hi,rfl⟩
        | (show (i:Int) < (l4.length:Int);omega)
        | (show (Int.toNat (i:Int)) < _;rw [jbf];exact hi)
        | (show (af _).length+1≤maxLen;rw [aR,ja5,jbc];simp only [maxLen];omega)
        | (show ((af _).length+1) * 16≤_;rw [aR,ja5,jbc];omega)
        | (show aL _ _;exact rfl)
        | (refine ⟨l4.length - (i+1),by omega,i+1,?_,by omega,rfl⟩
           exact lY (f:=fun r z=>(([.ptr 1 1 0,.val false [.sl true 9 r],argS 53 l4,.val false [.i .i64 l4.length],.val false [.i .i64 z]],[(1,(rowC cV [.i 3,.i n1,.i n2,.s s3,.l l4,.l [],.l []]).map fun c=>.val false [c])]):Snap)) (appN (f:=fmtO) hi (congrArg fmtO hq)) (wrapN hi hl)))
    | skip
   have hi:¬ i < l4.length:=nltN (by assumption)
   have hb:=xF (k:=i) el8'
   refine ar (Q:=_) [1,3,60,61,62] [1] (fun m st=>st=([.ptr 1 1 0,.val false [.sl true 9 (af ((l4.take i).map fmtO))],argS 131 [],.val false [.i .i64 (([]:List (List D)).length:Int)],.val false [.i .i64 0]],[(1,(rowC cV [.i 3,.i n1,.i n2,.s s3,.l l4,.l [],.l []]).map fun c=>.val false [c])])) ?_ ?_
   · exact ⟨rfl,0,rfl⟩
   rintro m st rfl
   repeat' first
    | (refine And.intro ?_ ?_)
    | (intro h;simp only [reduceCtorEq] at h;done)
    | (intro h;rw [h])
    | (intro h)
   all_goals first
    | (show ac _=true;kernel_rfl)|(show aj _ _=true;kernel_rfl)|exact True.intro|exact Or.inr rfl|exact Or.inl rfl
    | exact absurd (jaT (by assumption:decide ((0:Int) < (([]:List (List D)).length:Int))=true)) (by decide)
    | (refine ⟨af ((l4.take i).map fmtO),⟨by rw [aR,ja5,jbc];omega,by rw [cf];omega⟩,rfl⟩)
    | (refine resS ?_
       show brk (strsOf (af ((l4.take i).map fmtO)))=fmtO (csD (rowC cV [.i 3,.i n1,.i n2,.s s3,.l l4,.l [],.l []]))
       rw [hd,cL ho,cf,fT hi,hmap]
       exact fm3)
    | skip
 · have z1:(aM n1).size≤11:=cK (okV_str ho rfl).1
   have z2:(aM n2).size≤11:=cK (okV_str ho rfl).2
   repeat' first
    | (refine And.intro ?_ ?_)
    | (intro h;exact absurd (h.symm.trans hnn) Bool.noConfusion)
    | (intro h;cases h)
    | (intro h;rw [h])
    | (intro h)
   all_goals first
    | (show ac _=true;kernel_rfl)|(show aj _ _=true;kernel_rfl)|exact True.intro|exact Or.inr rfl|exact Or.inl rfl
    | exact ⟨_,wr,sm.2,rfl⟩
    | exact ⟨_,rfl⟩
    | (refine resS ?_;show _=fmtO (csD (rowC cV [.i 4,.i n1,.i n2,.s s3,.l l4,.l l5,.l l6]));rw [hd,cL ho];exact fm4)
    | (show 6+(aM n1).size≤maxLen;simp only [maxLen];omega)
    | (show (RNG++aM n1).size+2≤maxLen;simp only [aY,maxLen];omega)
    | (show (RNG++aM n1++COMMA).size+(aM n2).size≤maxLen;simp only [aY,maxLen];omega)
    | (show (RNG++aM n1++COMMA++aM n2).size+1≤maxLen;simp only [aY,maxLen];omega)
    | skip
 · have z4:l4.length=0:=pp.1.resolve_left (by decide)
   obtain rfl:=jbq.1 z4
   obtain ⟨tc,t12,tr⟩:=nf (okV_tbl ho rfl).1
   have zc:=ky tc
   have c4:=lC tc
   have zc' : (bJ (strsOf l5) ⟨#[32]⟩).size≤36:=zc
   have zr:(mb l6).size≤674:=ki c4.2.1 t12 tr
   have c4' : l5.length≤4:=c4.2.1
   have t12' : l6.length≤12:=t12
   have wA:WfD T (.l 131) (.l l6):=wr.rows (j:=6) rfl
   have hl:=wA.len
   repeat' first
    | (refine And.intro ?_ ?_)
    | (intro h;exact absurd (h.symm.trans hnn) Bool.noConfusion)
    | (intro h;cases h)
    | (intro h;rw [h])
    | (intro h)
   all_goals first
    | (show ac _=true;kernel_rfl)|(show aj _ _=true;kernel_rfl)|exact True.intro|exact Or.inr rfl|exact Or.inl rfl
    | exact ⟨_,wr,sm.2,rfl⟩
    | skip
   refine ar (Q:=_) [1,3,47,48,49] [1] (fun m st=>st=([.ptr 1 1 0,.val false [.sl true 9 []],argS 53 [],.val false [.i .i64 (([]:List (List D)).length:Int)],.val false [.i .i64 0]],[(1,(rowC cV [.i 5,.i n1,.i n2,.s s3,.l [],.l l5,.l l6]).map fun c=>.val false [c])])) ?_ ?_
   · exact ⟨rfl,0,rfl⟩
   rintro m st rfl
   repeat' first
    | (refine And.intro ?_ ?_)
    | (intro h;simp only [reduceCtorEq] at h;done)
    | (intro h;rw [h])
    | (intro h)
   all_goals first
    | (show ac _=true;kernel_rfl)|(show aj _ _=true;kernel_rfl)|exact True.intro|exact Or.inr rfl|exact Or.inl rfl
    | exact absurd (jaT (by assumption:decide ((0:Int) < (([]:List (List D)).length:Int))=true)) (by decide)
    | skip
   refine ar (Q:=_) [1,3,60,61,62] [1] (fun m st=>∃ i:Nat,st=([.ptr 1 1 0,.val false [.sl true 9 (af ((l6.take i).map rowT))],argS 131 l6,.val false [.i .i64 l6.length],.val false [.i .i64 (i:Int)]],[(1,(rowC cV [.i 5,.i n1,.i n2,.s s3,.l [],.l l5,.l l6]).map fun c=>.val false [c])])∧i≤l6.length∧m=l6.length - i) ?_ ?_
   · exact ⟨rfl,l6.length,0,rfl,jaU _,rfl⟩
   rintro m st ⟨i,rfl,hle,rfl⟩
   repeat' first
    | (refine And.intro ?_ ?_)
    | (intro h;simp only [reduceCtorEq] at h;done)
    | (intro h;rw [h])
    | (intro h)
   all_goals first
    | (show ac _=true;kernel_rfl)|(show aj _ _=true;kernel_rfl)|exact True.intro|exact Or.inr rfl|exact Or.inl rfl
    | with_reducible exact ja7 _
    | (have hi:¬ i < l6.length:=nltN (by assumption)
       have hb:=tK (k:=i) c4.2.1 t12 tr
       have hb' : (brk ((l6.take i).map rowT)).size≤674:=hb
       have hr:brk (strsOf (af ((l6.take i).map rowT)))=mb l6:=by rw [cf,fT hi];rfl
       first
        | exact ⟨l5,_,by omega,by omega,rfl⟩
        | exact absurd (by assumption:((5:Int) == 5)=false) (by decide)
        | exact ⟨af ((l6.take i).map rowT),⟨by rw [aR,ja5,jbc];omega,by rw [cf];omega⟩,rfl⟩
        | (show 7+(bJ (strsOf l5) ⟨#[32]⟩).size≤maxLen;simp only [maxLen];omega)
        | (show (TBL++bJ (strsOf l5) ⟨#[32]⟩).size+3≤maxLen;simp only [aY,maxLen];omega)
        | (show (TBL++bJ (strsOf l5) ⟨#[32]⟩++TBM).size+(brk (strsOf (af ((l6.take i).map rowT)))).size≤maxLen;rw [hr];simp only [aY,maxLen];omega)
        | (show (TBL++bJ (strsOf l5) ⟨#[32]⟩++TBM++brk (strsOf (af ((l6.take i).map rowT)))).size+1≤maxLen;rw [hr];simp only [aY,maxLen];omega)
        | (refine resS ?_
           show TBL++bJ (strsOf l5) ⟨#[32]⟩++TBM++brk (strsOf (af ((l6.take i).map rowT)))++RPA=fmtO (csD (rowC cV [.i 5,.i n1,.i n2,.s s3,.l [],.l l5,.l l6]))
           rw [hd,cL ho,hr]
           exact fm5))
    | (have hi:i < l6.length:=ltN (by assumption)
       first
        | (show (i:Int) < (l6.length:Int);omega)
        | (show (Int.toNat (i:Int)) < _;rw [jbf];exact hi))
    | skip
   have hi:i < l6.length:=ltN (by assumption)
   have we:WfRow T [.l 3,.l 167] (rAt l6 i):=wA.row rfl (by rw [jbf];exact hi)
   have wB:WfD T (.l 3) (.l ((rAt l6 i).getD 0 default).rows):=we.rows (j:=0) rfl
   have lb:=wB.len
   obtain ⟨hc1,_,hc3⟩:=ny (tr i hi)
   have hc1' : ((rAt l6 i).getD 0 default).rows.length=l5.length:=hc1
   refine ar (Q:=_) [1,3,60,61,62,7,8,68,69,70] [1,7] (fun m st=>∃ k:Nat,st=([.ptr 1 1 0,.val false [.sl true 9 (af ((l6.take i).map rowT))],argS 131 l6,.val false [.i .i64 l6.length],.val false [.i .i64 (i:Int)],.ptr 7 1 0,.val false [.sl true 9 (af ((((rAt l6 i).getD 0 default).rows.take k).map rF))],argS 3 ((rAt l6 i).getD 0 default).rows,.val false [.i .i64 ((rAt l6 i).getD 0 default).rows.length],.val false [.i .i64 (k:Int)]],[(1,(rowC cV [.i 5,.i n1,.i n2,.s s3,.l [],.l l5,.l l6]).map fun c=>.val false [c]),(1,(rowC [.l 3,.l 167] (rAt l6 i)).map fun c=>.val false [c])])∧k≤((rAt l6 i).getD 0 default).rows.length∧m=((rAt l6 i).getD 0 default).rows.length - k) ?_ ?_
   · exact ⟨rfl,((rAt l6 i).getD 0 default).rows.length,0,rfl,jaU _,rfl⟩
   rintro m st ⟨k,rfl,kle,rfl⟩
   repeat' first
    | (refine And.intro ?_ ?_)
    | (intro h;simp only [reduceCtorEq] at h;done)
    | (intro h;rw [h])
    | (intro h)
   all_goals first
    | (show ac _=true;kernel_rfl)|(show aj _ _=true;kernel_rfl)|exact True.intro|exact Or.inr rfl|exact Or.inl rfl
    | with_reducible exact ja7 _
    | (have hk:k < ((rAt l6 i).getD 0 default).rows.length:=ltN (by assumption)
       first
        | exact ⟨_,rfl⟩
        | (show (k:Int) < (((rAt l6 i).getD 0 default).rows.length:Int);omega)
        | (show (Int.toNat (k:Int)) < _;rw [jbf];exact hk)
        | (show (af _).length+1≤maxLen;rw [aR,ja5,jbc];simp only [maxLen];omega)
        | (show ((af _).length+1) * 16≤_;rw [aR,ja5,jbc];omega)
        | (show aL _ _;exact rfl)
        | (refine ⟨((rAt l6 i).getD 0 default).rows.length - (k+1),by omega,k+1,?_,by omega,rfl⟩
           exact lY (f:=fun r z=>(([.ptr 1 1 0,.val false [.sl true 9 (af ((l6.take i).map rowT))],argS 131 l6,.val false [.i .i64 l6.length],.val false [.i .i64 (i:Int)],.ptr 7 1 0,.val false [.sl true 9 r],argS 3 ((rAt l6 i).getD 0 default).rows,.val false [.i .i64 ((rAt l6 i).getD 0 default).rows.length],.val false [.i .i64 z]],[(1,(rowC cV [.i 5,.i n1,.i n2,.s s3,.l [],.l l5,.l l6]).map fun c=>.val false [c]),(1,(rowC [.l 3,.l 167] (rAt l6 i)).map fun c=>.val false [c])]):Snap)) (appN hk rfl) (wrapN hk lb)))
    | (have hk:¬ k < ((rAt l6 i).getD 0 default).rows.length:=nltN (by assumption)
       have hb:=tU (n:=l5.length) (k:=k) (show ((rAt l6 i).getD 0 default).rows.length≤4 by omega) hc3
       first
        | exact ⟨af ((((rAt l6 i).getD 0 default).rows.take k).map rF),⟨by rw [aR,ja5,jbc];omega,by rw [cf];omega⟩,rfl⟩
        | (show (af _).length+1≤maxLen;rw [aR,ja5,jbc];simp only [maxLen];omega)
        | (show ((af _).length+1) * 16≤_;rw [aR,ja5,jbc];omega)
        | (show aL _ _;exact rfl)
        | (refine ⟨l6.length - (i+1),by omega,i+1,?_,by omega,rfl⟩
           refine lY (f:=fun r z=>(([.ptr 1 1 0,.val false [.sl true 9 r],argS 131 l6,.val false [.i .i64 l6.length],.val false [.i .i64 z]],[(1,(rowC cV [.i 5,.i n1,.i n2,.s s3,.l [],.l l5,.l l6]).map fun c=>.val false [c])]):Snap)) (appN (f:=rowT) hi ?_) (wrapN hi hl)
           show brk (strsOf (af ((((rAt l6 i).getD 0 default).rows.take k).map rF)))=rowT (rAt l6 i)
           rw [cf,fT hk]
           rfl))
    | skip
 · have ze:=eA n1
   obtain ⟨e0,e1⟩:=okV_err ho rfl
   repeat' first
    | (refine And.intro ?_ ?_)
    | (intro h;exact absurd (h.symm.trans hnn) Bool.noConfusion)
    | (intro h;cases h)
    | (intro h;rw [h])
    | (intro h)
   all_goals first
    | (show ac _=true;kernel_rfl)|(show aj _ _=true;kernel_rfl)|exact True.intro|exact Or.inr rfl|exact Or.inl rfl
    | exact ⟨_,wr,sm.2,rfl⟩
    | exact ⟨_,e0,e1,rfl⟩
    | (refine resS ?_;show _=fmtO (csD (rowC cV [.i 6,.i n1,.i n2,.s s3,.l l4,.l l5,.l l6]));rw [hd,cL ho];exact fm6)
    | (show 6+(errB n1).size≤maxLen;simp only [maxLen];omega)
    | skip
theorem xR:∀ n,FOk Tryz.prog T 54 (spGT T cV (SmN n) fmtO):=by
 intro n
 induction n with
 | zero =>
   refine fok (env:=envL []) (N:=100) tabT ae mixed Tryz.func54 rfl Tryz.call54 Tryz.ntmps54 ?_
   rintro args ⟨a,wa,sm,rfl⟩ _
   exact absurd sm.1 (jbJ _)
 | succ n ih=>exact vG n ih
theorem xk54:FOk Tryz.prog T 54 (spGT T cV SmM fmtO):=FOk.lift xR (fun args ⟨a,wa,sm,h⟩=>⟨wRow a+1,a,wa,⟨jbT _,sm⟩,h⟩) (fun n=>rfl)
end Go.Proofs.YtkpnfbdoaljkpaaGreatDoor.Ab
