/- Texts of values in the reference, exactly: printed by a program of this -/
import Derived.Test.YtkpnfbdoaljkpaaGreatDoorDYf
import Derived.Test.YtkpnfbdoaljkpaaGreatDoorDYd
import Derived.Test.YtkpnfbdoaljkpaaGreatDoorDFe
import Derived.Test.YtkpnfbdoaljkpaaGreatDoorDFi
namespace Go.Proofs.YtkpnfbdoaljkpaaGreatDoor.Ab
open Go.RowKit
set_option linter.unusedVariables false
set_option linter.unusedSimpArgs false
set_option maxRecDepth 100000
set_option maxHeartbeats 2000000
theorem xk151:FOk Tryz.prog T 151 (spST 131 SmRows rowsT):=by
  refine fok (env:=envL [(89,spItoa),(124,spJoin)]) (N:=48) tabT (envL_cons ok89 (envL_cons ok124 envL_nil)) mixed Tryz.func151 rfl Tryz.call151 Tryz.ntmps151 ?_
  rintro args ⟨a,⟨n,hn,h12,hR⟩,rfl⟩ hwf
  have wa:WfD T (.l 131) (.l a):=arg0 hwf (List.mem_singleton_self _)
  have hl:=wa.len
  refine ⟨by simp,?_⟩
  clear hwf
  rw [Tryz.results151]
  repeat' first
    | (refine And.intro ?_ ?_)
    | (intro h;simp only [reduceCtorEq] at h;done)
    | (intro h;rw [h])
    | (intro h)
  all_goals first
    | (show lowEdges _=true;kernel_rfl)|(show logOk _ _=true;kernel_rfl)|exact True.intro|exact Or.inr rfl|exact Or.inl rfl
    | skip
  refine awp_loop (Q:=_) [0,3,4] [] (fun m st=>∃ i:Nat,st=([argS 131 a,.val false [.sl true 9 (strRows ((a.take i).map rowT))],.val false [.i .i64 (i:Int)]],[])∧i≤a.length∧m=a.length - i) ?_ ?_
  · exact ⟨rfl,a.length,0,rfl,Nat.zero_le _,rfl⟩
  rintro m st ⟨i,rfl,hle,rfl⟩
  repeat' first
    | (refine And.intro ?_ ?_)
    | (intro h;simp only [reduceCtorEq] at h;done)
    | (intro h;rw [h])
    | (intro h)
  all_goals first
    | (show lowEdges _=true;kernel_rfl)|(show logOk _ _=true;kernel_rfl)|exact True.intro|exact Or.inr rfl|exact Or.inl rfl
    | (have hi:¬ i < a.length:=nltN (by with_reducible assumption)
       have hb:=rowT_brk (k:=i) hn h12 hR
       have hj:=joinT_brk ((a.take i).map rowT)
       first
         | exact join_pre' (by omega) (by omega)
         | (refine resS ((join_rows _).trans ?_);rw [take_end hi];rfl)
         | (show 1+(joinT (strsOf (strRows ((a.take i).map rowT))) COMMA).size≤maxLen;rw [strsOf_rows];simp only [maxLen];omega)
         | (show (LBR++joinT (strsOf (strRows ((a.take i).map rowT))) COMMA).size+1≤maxLen;rw [strsOf_rows,app_size];simp only [maxLen];show 1+_+1≤_;omega))
    | skip
  have hi:i < a.length:=ltN (by assumption)
  have wr:WfRow T [.l 3,.l 167] (rAt a i):=wa.row rfl (by rw [Int.toNat_natCast];exact hi)
  have wB:WfD T (.l 3) (.l ((rAt a i).getD 0 default).rows):=wr.rows (j:=0) rfl
  have lb:=wB.len
  obtain ⟨hc1,_,hc3⟩:=row_at_ (hR i hi)
  refine awp_loop (Q:=_) [0,3,4,5,6] [] (fun m st=>∃ k:Nat,st=([argS 131 a,.val false [.sl true 9 (strRows ((a.take i).map rowT))],.val false [.i .i64 (i:Int)],.val false [.sl true 9 (strRows ((((rAt a i).getD 0 default).rows.take k).map numT1))],.val false [.i .i64 (k:Int)]],[])∧k≤((rAt a i).getD 0 default).rows.length∧m=((rAt a i).getD 0 default).rows.length - k) ?_ ?_
  · exact ⟨rfl,((rAt a i).getD 0 default).rows.length,0,rfl,Nat.zero_le _,rfl⟩
  rintro m st ⟨k,rfl,kle,rfl⟩
  repeat' first
    | (refine And.intro ?_ ?_)
    | (intro h;simp only [reduceCtorEq] at h;done)
    | (intro h;rw [h])
    | (intro h)
  all_goals first
    | (show lowEdges _=true;kernel_rfl)|(show logOk _ _=true;kernel_rfl)|exact True.intro|exact Or.inr rfl|exact Or.inl rfl
    | with_reducible exact Int.natCast_nonneg _
    | (show (i:Int) < _;omega)
    | (show (Int.toNat (i:Int)) < _;rw [Int.toNat_natCast];exact hi)
    | (have hk:k < ((rAt a i).getD 0 default).rows.length:=ltN (by assumption)
       first
         | exact ⟨_,rfl⟩
         | (show (k:Int) < (((rAt a i).getD 0 default).rows.length:Int);omega)
         | (show (Int.toNat (k:Int)) < _;rw [Int.toNat_natCast];exact hk)
         | (show (strRows _).length+1≤maxLen;rw [strRows_len,List.length_map,List.length_take];simp only [maxLen];omega)
         | (show ((strRows _).length+1) * 16≤_;rw [strRows_len,List.length_map,List.length_take];omega)
         | (show Alive _ _;exact rfl)
         | (refine ⟨((rAt a i).getD 0 default).rows.length - (k+1),by omega,k+1,?_,by omega,rfl⟩
            exact snapRZ (f:=fun r z=>(([argS 131 a,.val false [.sl true 9 (strRows ((a.take i).map rowT))],.val false [.i .i64 (i:Int)],.val false [.sl true 9 r],.val false [.i .i64 z]],[]):Snap)) (appN hk rfl) (wrapN hk lb)))
    | (have hk:¬ k < ((rAt a i).getD 0 default).rows.length:=nltN (by assumption)
       have hb:=numT_brk (n:=n) (k:=k) (show ((rAt a i).getD 0 default).rows.length≤4 by omega) hc3
       have hj:=joinT_brk ((((rAt a i).getD 0 default).rows.take k).map numT1)
       first
         | exact join_pre' (by omega) (by omega)
         | (show 1+(joinT (strsOf (strRows ((((rAt a i).getD 0 default).rows.take k).map numT1))) COMMA).size≤maxLen;rw [strsOf_rows];simp only [maxLen];omega)
         | (show (LBR++joinT (strsOf (strRows ((((rAt a i).getD 0 default).rows.take k).map numT1))) COMMA).size+1≤maxLen;rw [strsOf_rows,app_size];simp only [maxLen];show 1+_+1≤_;omega)
         | (show (strRows _).length+1≤maxLen;rw [strRows_len,List.length_map,List.length_take];simp only [maxLen];omega)
         | (show ((strRows _).length+1) * 16≤_;rw [strRows_len,List.length_map,List.length_take];omega)
         | (show Alive _ _;exact rfl)
         | (refine ⟨a.length - (i+1),by omega,i+1,?_,by omega,rfl⟩
            refine snapRZ (f:=fun r z=>(([argS 131 a,.val false [.sl true 9 r],.val false [.i .i64 z]],[]):Snap)) (appN (f:=rowT) hi ?_) (wrapN hi hl)
            refine (join_rows _).trans ?_
            rw [take_end hk]
            rfl))
    | skip
theorem xstep105 (n:Nat) (hn:FOk Tryz.prog T 105 (spGT T [.i .i64,.i .i64,.i .i64,.s,.l 53,.l 9,.l 131] (fun a=>SmN n a∧okV a=true) fmtV)):FOk Tryz.prog T 105 (spGT T [.i .i64,.i .i64,.i .i64,.s,.l 53,.l 9,.l 131] (fun a=>SmN (n+1) a∧okV a=true) fmtV):=by
  refine fok (env:=envL [(89,spItoa),(124,spJoin),(151,(spST 131 SmRows rowsT)),(152,spErr),(105,(spGT T [.i .i64,.i .i64,.i .i64,.s,.l 53,.l 9,.l 131] (fun a=>SmN n a∧okV a=true) fmtV))]) (N:=69) tabT (envL_cons ok89 (envL_cons ok124 (envL_cons xk151 (envL_cons ok152 (envL_cons hn envL_nil))))) mixed Tryz.func105 rfl Tryz.call105 Tryz.ntmps105 ?_
  rintro args ⟨a,wa,⟨sm,ho⟩,rfl⟩ hwf
  have hd:csD (rowC [.i .i64,.i .i64,.i .i64,.s,.l 53,.l 9,.l 131] a)=a:=csD_rowC wa
  have wr:=wa
  refine ⟨by simp,?_⟩
  clear hwf
  rw [Tryz.results105]
  obtain ⟨d0,r0,rfl,w0,wa⟩:=wa.cons'
  obtain ⟨d1,r1,rfl,w1,wa⟩:=wa.cons'
  obtain ⟨d2,r2,rfl,w2,wa⟩:=wa.cons'
  obtain ⟨d3,r3,rfl,w3,wa⟩:=wa.cons'
  obtain ⟨d4,r4,rfl,w4,wa⟩:=wa.cons'
  obtain ⟨d5,r5,rfl,w5,wa⟩:=wa.cons'
  obtain ⟨d6,r6,rfl,w6,wa⟩:=wa.cons'
  obtain rfl:=wa.nil'
  obtain ⟨n0,rfl,_⟩:=w0.int'
  obtain ⟨n1,rfl,_⟩:=w1.int'
  obtain ⟨n2,rfl,_⟩:=w2.int'
  obtain ⟨s3,rfl,_⟩:=w3.str'
  obtain ⟨l4,rfl,_⟩:=w4.sl'
  obtain ⟨l5,rfl,_⟩:=w5.sl'
  obtain ⟨l6,rfl,_⟩:=w6.sl'
  clear w0 w1 w2 w3 w4 w5 w6
  have eR:RNG.size=6:=rfl
  have eC:COMMA.size=2:=rfl
  have eP:RPA.size=1:=rfl
  have eT:TBL.size=7:=rfl
  have eM:TBM.size=3:=rfl
  have eE:ERR.size=6:=rfl
  have eL:LBR.size=1:=rfl
  have eB:RBR.size=1:=rfl
  have hk:n0=1∨n0=2∨n0=3∨n0=4∨n0=5∨n0=6:=okV_kind ho
  rcases hk with rfl|rfl|rfl|rfl|rfl|rfl
  · repeat' first
      | (refine And.intro ?_ ?_)
      | (intro h;cases h)
      | (intro h;rw [h])
      | (intro h)
    all_goals first
      | (show lowEdges _=true;kernel_rfl)|(show logOk _ _=true;kernel_rfl)|exact True.intro|exact Or.inr rfl|exact Or.inl rfl
      | exact ⟨_,rfl⟩
      | (refine resS ?_;show _=fmtV (csD (rowC [.i .i64,.i .i64,.i .i64,.s,.l 53,.l 9,.l 131] [.i 1,.i n1,.i n2,.s s3,.l l4,.l l5,.l l6]));rw [hd];exact fm1)
  · have z3:=okTxt_size (okV_txt ho rfl).1
    have z3' : s3.size≤20:=z3
    repeat' first
      | (refine And.intro ?_ ?_)
      | (intro h;cases h)
      | (intro h;rw [h])
      | (intro h)
    all_goals first
      | (show lowEdges _=true;kernel_rfl)|(show logOk _ _=true;kernel_rfl)|exact True.intro|exact Or.inr rfl|exact Or.inl rfl
      | (refine resS ?_;show _=fmtV (csD (rowC [.i .i64,.i .i64,.i .i64,.s,.l 53,.l 9,.l 131] [.i 2,.i n1,.i n2,.s s3,.l l4,.l l5,.l l6]));rw [hd];exact fm2)
      | (show 1+s3.size≤maxLen;simp only [maxLen];omega)
      | (show (QUO++s3).size+1≤maxLen;rw [app_size];show 1+s3.size+1≤maxLen;simp only [maxLen];omega)
  · have wA:WfD T (.l 53) (.l l4):=wr.rows (j:=4) rfl
    have hl:=wA.len
    obtain ⟨el,el8,_⟩:=listV_at (okV_list ho rfl).1
    have el8' : l4.length≤8:=el8
    repeat' first
      | (refine And.intro ?_ ?_)
      | (intro h;cases h)
      | (intro h;rw [h])
      | (intro h)
    all_goals first
      | (show lowEdges _=true;kernel_rfl)|(show logOk _ _=true;kernel_rfl)|exact True.intro|exact Or.inr rfl|exact Or.inl rfl
      | skip
    refine awp_loop (Q:=_) [1,3,4] [1] (fun m st=>∃ i:Nat,st=([.ptr 1 1 0,.val false [.sl true 9 (strRows ((l4.take i).map fmtV))],.val false [.i .i64 (i:Int)]],[(1,(rowC [.i .i64,.i .i64,.i .i64,.s,.l 53,.l 9,.l 131] [.i 3,.i n1,.i n2,.s s3,.l l4,.l l5,.l l6]).map fun c=>.val false [c])])∧i≤l4.length∧m=l4.length - i) ?_ ?_
    · exact ⟨rfl,l4.length,0,rfl,Nat.zero_le _,rfl⟩
    rintro m st ⟨i,rfl,hle,rfl⟩
    repeat' first
      | (refine And.intro ?_ ?_)
      | (intro h;simp only [reduceCtorEq] at h;done)
      | (intro h;rw [h])
      | (intro h)
    all_goals first
      | (show lowEdges _=true;kernel_rfl)|(show logOk _ _=true;kernel_rfl)|exact True.intro|exact Or.inr rfl|exact Or.inl rfl
      | with_reducible exact Int.natCast_nonneg _
      | (have hi:i < l4.length:=ltN (by assumption)
         have we:WfRow T [.i .i64,.i .i64,.i .i64,.s,.l 53,.l 9,.l 131] (rAt l4 i):=wA.row rfl (by rw [Int.toNat_natCast];exact hi)
         have hq:csD (rowC [.i .i64,.i .i64,.i .i64,.s,.l 53,.l 9,.l 131] (rAt l4 i))=(rAt l4 i):=csD_rowC we
         first
           | exact ⟨_,we,⟨sm.lst (i:=i) hi,(el i hi).2⟩,rfl⟩
           | (show (i:Int) < (l4.length:Int);omega)
           | (show (Int.toNat (i:Int)) < _;rw [Int.toNat_natCast];exact hi)
           | (show (strRows _).length+1≤maxLen;rw [strRows_len,List.length_map,List.length_take];simp only [maxLen];omega)
           | (show ((strRows _).length+1) * 16≤_;rw [strRows_len,List.length_map,List.length_take];omega)
           | (show Alive _ _;exact rfl)
           | (refine ⟨l4.length - (i+1),by omega,i+1,?_,by omega,rfl⟩
              exact snapRZ (f:=fun r z=>(([.ptr 1 1 0,.val false [.sl true 9 r],.val false [.i .i64 z]],[(1,(rowC [.i .i64,.i .i64,.i .i64,.s,.l 53,.l 9,.l 131] [.i 3,.i n1,.i n2,.s s3,.l l4,.l l5,.l l6]).map fun c=>.val false [c])]):Snap)) (appN (f:=fmtV) hi (congrArg fmtV hq)) (wrapN hi hl)))
      | (have hi:¬ i < l4.length:=nltN (by assumption)
         have hb:=el_brk (k:=i) ho rfl
         have hj:=joinT_brk ((l4.take i).map fmtV)
         have hb' : (brk ((l4.take i).map fmtV)).size≤16018:=hb
         first
           | exact join_pre' (by omega) (by omega)
           | (show 1+(joinT (strsOf (strRows ((l4.take i).map fmtV))) COMMA).size≤maxLen;rw [strsOf_rows];simp only [maxLen];omega)
           | (show (LBR++joinT (strsOf (strRows ((l4.take i).map fmtV))) COMMA).size+1≤maxLen;rw [strsOf_rows,app_size];simp only [maxLen];omega)
           | (refine resS ((join_rows _).trans ?_);rw [take_end hi];show _=fmtV (csD (rowC [.i .i64,.i .i64,.i .i64,.s,.l 53,.l 9,.l 131] [.i 3,.i n1,.i n2,.s s3,.l l4,.l l5,.l l6]));rw [hd];exact fm3))
      | skip
  · have z1:=itoaB_11 (okV_str ho rfl).1
    have z2:=itoaB_11 (okV_str ho rfl).2
    have z1' : (itoaB n1).size≤11:=z1
    have z2' : (itoaB n2).size≤11:=z2
    repeat' first
      | (refine And.intro ?_ ?_)
      | (intro h;cases h)
      | (intro h;rw [h])
      | (intro h)
    all_goals first
      | (show lowEdges _=true;kernel_rfl)|(show logOk _ _=true;kernel_rfl)|exact True.intro|exact Or.inr rfl|exact Or.inl rfl
      | exact ⟨_,rfl⟩
      | (refine resS ?_;show _=fmtV (csD (rowC [.i .i64,.i .i64,.i .i64,.s,.l 53,.l 9,.l 131] [.i 4,.i n1,.i n2,.s s3,.l l4,.l l5,.l l6]));rw [hd];exact fm4)
      | (show 6+(itoaB n1).size≤maxLen;simp only [maxLen];omega)
      | (show (RNG++itoaB n1).size+2≤maxLen;simp only [app_size,maxLen];omega)
      | (show (RNG++itoaB n1++COMMA).size+(itoaB n2).size≤maxLen;simp only [app_size,maxLen];omega)
      | (show (RNG++itoaB n1++COMMA++itoaB n2).size+1≤maxLen;simp only [app_size,maxLen];omega)
      | skip
  · obtain ⟨tc,t12,tr⟩:=tblV_at (okV_tbl ho rfl).1
    have zc:=colsT_size tc
    have c4:=cols_at tc
    have zc' : (joinT (strsOf l5) ⟨#[32]⟩).size≤36:=zc
    have zr:(rowsT l6).size≤674:=rowsT_size c4.2.1 t12 tr
    have c4' : l5.length≤4:=c4.2.1
    repeat' first
      | (refine And.intro ?_ ?_)
      | (intro h;cases h)
      | (intro h;rw [h])
      | (intro h)
    all_goals first
      | (show lowEdges _=true;kernel_rfl)|(show logOk _ _=true;kernel_rfl)|exact True.intro|exact Or.inr rfl|exact Or.inl rfl
      | exact ⟨l5,_,by omega,by omega,rfl⟩
      | exact ⟨l6,⟨l5.length,c4',t12,tr⟩,rfl⟩
      | (refine resS ?_;show _=fmtV (csD (rowC [.i .i64,.i .i64,.i .i64,.s,.l 53,.l 9,.l 131] [.i 5,.i n1,.i n2,.s s3,.l l4,.l l5,.l l6]));rw [hd];exact fm5)
      | (show 7+(joinT (strsOf l5) ⟨#[32]⟩).size≤maxLen;simp only [maxLen];omega)
      | (show (TBL++joinT (strsOf l5) ⟨#[32]⟩).size+3≤maxLen;simp only [app_size,maxLen];omega)
      | (show (TBL++joinT (strsOf l5) ⟨#[32]⟩++TBM).size+(rowsT l6).size≤maxLen;simp only [app_size,maxLen];omega)
      | (show (TBL++joinT (strsOf l5) ⟨#[32]⟩++TBM++rowsT l6).size+1≤maxLen;simp only [app_size,maxLen];omega)
      | skip
  · have ze:=errB_size n1
    obtain ⟨e0,e1⟩:=okV_err ho rfl
    repeat' first
      | (refine And.intro ?_ ?_)
      | (intro h;cases h)
      | (intro h;rw [h])
      | (intro h)
    all_goals first
      | (show lowEdges _=true;kernel_rfl)|(show logOk _ _=true;kernel_rfl)|exact True.intro|exact Or.inr rfl|exact Or.inl rfl
      | exact ⟨_,e0,e1,rfl⟩
      | (refine resS ?_;show _=fmtV (csD (rowC [.i .i64,.i .i64,.i .i64,.s,.l 53,.l 9,.l 131] [.i 6,.i n1,.i n2,.s s3,.l l4,.l l5,.l l6]));rw [hd];exact fm6)
      | (show 6+(errB n1).size≤maxLen;simp only [maxLen];omega)
      | skip
theorem xrec105:∀ n,FOk Tryz.prog T 105 (spGT T [.i .i64,.i .i64,.i .i64,.s,.l 53,.l 9,.l 131] (fun a=>SmN n a∧okV a=true) fmtV):=by
  intro n
  induction n with
  | zero =>
    refine fok (env:=envL []) (N:=69) tabT envL_nil mixed Tryz.func105 rfl Tryz.call105 Tryz.ntmps105 ?_
    rintro args ⟨a,wa,sm,rfl⟩ _
    exact absurd sm.1.1 (Nat.not_lt_zero _)
  | succ n ih=>exact xstep105 n ih
theorem xk105:FOk Tryz.prog T 105 (spGT T [.i .i64,.i .i64,.i .i64,.s,.l 53,.l 9,.l 131] (fun a=>SmM a∧okV a=true) fmtV):=FOk.lift xrec105 (fun args ⟨a,wa,sm,h⟩=>⟨wRow a+1,a,wa,⟨⟨Nat.lt_succ_self _,sm.1⟩,sm.2⟩,h⟩) (fun n=>rfl)
theorem xk52:FOk Tryz.prog T 52 (spGT T [.i .i64,.i .i64,.i .i64,.s,.l 53,.l 9,.l 131] SmM fmtO):=by
  refine fok (env:=envL [(104,(spGB T [.i .i64,.i .i64,.i .i64,.s,.l 53,.l 9,.l 131] SmM okV)),(105,(spGT T [.i .i64,.i .i64,.i .i64,.s,.l 53,.l 9,.l 131] (fun a=>SmM a∧okV a=true) fmtV))]) (N:=8) tabT (envL_cons xk104 (envL_cons xk105 envL_nil)) mixed Tryz.func52 rfl Tryz.call52 Tryz.ntmps52 ?_
  rintro args ⟨a,wa,sm,rfl⟩ hwf
  have hd:csD (rowC [.i .i64,.i .i64,.i .i64,.s,.l 53,.l 9,.l 131] a)=a:=csD_rowC wa
  refine ⟨by simp,?_⟩
  clear hwf
  rw [Tryz.results52]
  repeat' first
    | (refine And.intro ?_ ?_)
    | (intro h;simp only [reduceCtorEq] at h;done)
    | (intro h;rw [h])
    | (intro h)
  all_goals first
    | (show lowEdges _=true;kernel_rfl)|(show logOk _ _=true;kernel_rfl)|exact True.intro|exact Or.inr rfl|exact Or.inl rfl
    | exact ⟨_,wa,sm,rfl⟩
    | (have ho:okV a=true:=(by have h:=of_notF (by assumption:(!okV (csD (rowC [.i .i64,.i .i64,.i .i64,.s,.l 53,.l 9,.l 131] a)))=false);rwa [hd] at h);first|exact ⟨_,wa,⟨sm,ho⟩,rfl⟩|(refine resS ?_;show fmtV (csD (rowC [.i .i64,.i .i64,.i .i64,.s,.l 53,.l 9,.l 131] a))=fmtO (csD (rowC [.i .i64,.i .i64,.i .i64,.s,.l 53,.l 9,.l 131] a));rw [hd];exact (fmtO_yes ho).symm))
    | (have ho:okV a=false:=(by have h:=of_notT (by assumption:(!okV (csD (rowC [.i .i64,.i .i64,.i .i64,.s,.l 53,.l 9,.l 131] a)))=true);rwa [hd] at h);refine resS ?_;show _=fmtO (csD (rowC [.i .i64,.i .i64,.i .i64,.s,.l 53,.l 9,.l 131] a));rw [hd];exact (fmtO_no ho).symm)
    | skip
theorem xk114:FOk Tryz.prog T 114 (spST 9 SmBrk (fun l=>brk (strsOf l))):=by
  refine fok (env:=envL [(115,spJoin)]) (N:=7) tabT (envL_cons ok115 envL_nil) mixed Tryz.func114 rfl Tryz.call114 Tryz.ntmps114 ?_
  rintro args ⟨a,⟨hl,hb⟩,rfl⟩ hwf
  have hj:=joinT_brk (strsOf a)
  have hz:(joinT (strsOf a) COMMA).size≤1099511627774:=by omega
  refine ⟨by simp,?_⟩
  clear hwf
  rw [Tryz.results114]
  repeat' first
    | (refine And.intro ?_ ?_)
    | (intro h;simp only [reduceCtorEq] at h;done)
    | (intro h;rw [h])
    | (intro h)
  all_goals first
    | (show lowEdges _=true;kernel_rfl)|(show logOk _ _=true;kernel_rfl)|exact True.intro|exact Or.inr rfl|exact Or.inl rfl
    | (refine ⟨a,_,by omega,?_,rfl⟩;show (joinT (strsOf a) COMMA).size≤_;omega)
    | (show 1+(joinT (strsOf a) COMMA).size≤maxLen;simp only [maxLen];omega)
    | (show (LBR++joinT (strsOf a) COMMA).size+1≤maxLen;rw [app_size];show 1+(joinT (strsOf a) COMMA).size+1≤maxLen;simp only [maxLen];omega)
    | exact rfl
    | skip
theorem xstep54 (n:Nat) (hn:FOk Tryz.prog T 54 (spGT T [.i .i64,.i .i64,.i .i64,.s,.l 53,.l 9,.l 131] (SmN n) fmtO)):FOk Tryz.prog T 54 (spGT T [.i .i64,.i .i64,.i .i64,.s,.l 53,.l 9,.l 131] (SmN (n+1)) fmtO):=by
  refine fok (env:=envL [(112,(spGB T [.i .i64,.i .i64,.i .i64,.s,.l 53,.l 9,.l 131] SmM okV)),(87,spItoa),(113,spErr),(54,(spGT T [.i .i64,.i .i64,.i .i64,.s,.l 53,.l 9,.l 131] (SmN n) fmtO)),(114,(spST 9 SmBrk (fun l=>brk (strsOf l)))),(115,spJoin)]) (N:=100) tabT (envL_cons xk112 (envL_cons ok87 (envL_cons ok113 (envL_cons hn (envL_cons xk114 (envL_cons ok115 envL_nil)))))) mixed Tryz.func54 rfl Tryz.call54 Tryz.ntmps54 ?_
  rintro args ⟨a,wa,sm,rfl⟩ hwf
  have hd:csD (rowC [.i .i64,.i .i64,.i .i64,.s,.l 53,.l 9,.l 131] a)=a:=csD_rowC wa
  have wr:=wa
  refine ⟨by simp,?_⟩
  clear hwf
  rw [Tryz.results54]
  cases ho:okV a with
  | false =>
    have hno:okV (csD (rowC [.i .i64,.i .i64,.i .i64,.s,.l 53,.l 9,.l 131] a))=false:=by rw [hd];exact ho
    repeat' first
      | (refine And.intro ?_ ?_)
      | (intro h;exact absurd (h.symm.trans (notF hno)) Bool.noConfusion)
      | (intro h;rw [h])
      | (intro h)
    all_goals first
      | (show lowEdges _=true;kernel_rfl)|(show logOk _ _=true;kernel_rfl)|exact True.intro|exact Or.inr rfl|exact Or.inl rfl
      | exact ⟨_,wa,sm.2,rfl⟩
      | (refine resS ?_;show _=fmtO (csD (rowC [.i .i64,.i .i64,.i .i64,.s,.l 53,.l 9,.l 131] a));rw [hd,fmtO_no ho])
      | skip
  | true =>
  have hyes:okV (csD (rowC [.i .i64,.i .i64,.i .i64,.s,.l 53,.l 9,.l 131] a))=true:=by rw [hd];exact ho
  have hnn:(!okV (csD (rowC [.i .i64,.i .i64,.i .i64,.s,.l 53,.l 9,.l 131] a)))=false:=notT hyes
  obtain ⟨d0,r0,rfl,w0,wa⟩:=wa.cons'
  obtain ⟨d1,r1,rfl,w1,wa⟩:=wa.cons'
  obtain ⟨d2,r2,rfl,w2,wa⟩:=wa.cons'
  obtain ⟨d3,r3,rfl,w3,wa⟩:=wa.cons'
  obtain ⟨d4,r4,rfl,w4,wa⟩:=wa.cons'
  obtain ⟨d5,r5,rfl,w5,wa⟩:=wa.cons'
  obtain ⟨d6,r6,rfl,w6,wa⟩:=wa.cons'
  obtain rfl:=wa.nil'
  obtain ⟨n0,rfl,_⟩:=w0.int'
  obtain ⟨n1,rfl,_⟩:=w1.int'
  obtain ⟨n2,rfl,_⟩:=w2.int'
  obtain ⟨s3,rfl,_⟩:=w3.str'
  obtain ⟨l4,rfl,_⟩:=w4.sl'
  obtain ⟨l5,rfl,_⟩:=w5.sl'
  obtain ⟨l6,rfl,_⟩:=w6.sl'
  clear w0 w1 w2 w3 w4 w5 w6
  have eR:RNG.size=6:=rfl
  have eC:COMMA.size=2:=rfl
  have eP:RPA.size=1:=rfl
  have eT:TBL.size=7:=rfl
  have eM:TBM.size=3:=rfl
  have eE:ERR.size=6:=rfl
  have eL:LBR.size=1:=rfl
  have eB:RBR.size=1:=rfl
  have hk:n0=1∨n0=2∨n0=3∨n0=4∨n0=5∨n0=6:=okV_kind ho
  have pp:(n0=3∨l4.length=0)∧(n0=5∨(l5.length=0∧l6.length=0))∧_:=okV_p ho
  rcases hk with rfl|rfl|rfl|rfl|rfl|rfl
  · repeat' first
      | (refine And.intro ?_ ?_)
      | (intro h;exact absurd (h.symm.trans hnn) Bool.noConfusion)
      | (intro h;cases h)
      | (intro h;rw [h])
      | (intro h)
    all_goals first
      | (show lowEdges _=true;kernel_rfl)|(show logOk _ _=true;kernel_rfl)|exact True.intro|exact Or.inr rfl|exact Or.inl rfl
      | exact ⟨_,wr,sm.2,rfl⟩
      | exact ⟨_,rfl⟩
      | (refine resS ?_;show _=fmtO (csD (rowC [.i .i64,.i .i64,.i .i64,.s,.l 53,.l 9,.l 131] [.i 1,.i n1,.i n2,.s s3,.l l4,.l l5,.l l6]));rw [hd,fmtO_yes ho];exact fm1)
      | skip
  · have z3:s3.size≤20:=okTxt_size (okV_txt ho rfl).1
    repeat' first
      | (refine And.intro ?_ ?_)
      | (intro h;exact absurd (h.symm.trans hnn) Bool.noConfusion)
      | (intro h;cases h)
      | (intro h;rw [h])
      | (intro h)
    all_goals first
      | (show lowEdges _=true;kernel_rfl)|(show logOk _ _=true;kernel_rfl)|exact True.intro|exact Or.inr rfl|exact Or.inl rfl
      | exact ⟨_,wr,sm.2,rfl⟩
      | (refine resS ?_;show _=fmtO (csD (rowC [.i .i64,.i .i64,.i .i64,.s,.l 53,.l 9,.l 131] [.i 2,.i n1,.i n2,.s s3,.l l4,.l l5,.l l6]));rw [hd,fmtO_yes ho];exact fm2)
      | (show 1+s3.size≤maxLen;simp only [maxLen];omega)
      | (show (QUO++s3).size+1≤maxLen;rw [app_size];show 1+s3.size+1≤maxLen;simp only [maxLen];omega)
      | skip
  · obtain ⟨z5,z6⟩:=pp.2.1.resolve_left (by decide)
    obtain rfl:=List.length_eq_zero_iff.1 z5
    obtain rfl:=List.length_eq_zero_iff.1 z6
    have wA:WfD T (.l 53) (.l l4):=wr.rows (j:=4) rfl
    have hl:=wA.len
    obtain ⟨el,el8,_⟩:=listV_at (okV_list ho rfl).1
    have el8' : l4.length≤8:=el8
    have hmap:l4.map fmtO=l4.map fmtV:=map_at fmtO fmtV [] l4 fun i hi=>fmtO_yes (el i hi).2
    repeat' first
      | (refine And.intro ?_ ?_)
      | (intro h;exact absurd (h.symm.trans hnn) Bool.noConfusion)
      | (intro h;cases h)
      | (intro h;rw [h])
      | (intro h)
    all_goals first
      | (show lowEdges _=true;kernel_rfl)|(show logOk _ _=true;kernel_rfl)|exact True.intro|exact Or.inr rfl|exact Or.inl rfl
      | exact ⟨_,wr,sm.2,rfl⟩
      | skip
    refine awp_loop (Q:=_) [1,3,47,48,49] [1] (fun m st=>∃ i:Nat,st=([.ptr 1 1 0,.val false [.sl true 9 (strRows ((l4.take i).map fmtO))],argS 53 l4,.val false [.i .i64 l4.length],.val false [.i .i64 (i:Int)]],[(1,(rowC [.i .i64,.i .i64,.i .i64,.s,.l 53,.l 9,.l 131] [.i 3,.i n1,.i n2,.s s3,.l l4,.l [],.l []]).map fun c=>.val false [c])])∧i≤l4.length∧m=l4.length - i) ?_ ?_
    · exact ⟨rfl,l4.length,0,rfl,Nat.zero_le _,rfl⟩
    rintro m st ⟨i,rfl,hle,rfl⟩
    repeat' first
      | (refine And.intro ?_ ?_)
      | (intro h;simp only [reduceCtorEq] at h;done)
      | (intro h;rw [h])
      | (intro h)
    all_goals first
      | (show lowEdges _=true;kernel_rfl)|(show logOk _ _=true;kernel_rfl)|exact True.intro|exact Or.inr rfl|exact Or.inl rfl
      | with_reducible exact Int.natCast_nonneg _
      | (have hi:i < l4.length:=ltN (by assumption)
         have we:WfRow T [.i .i64,.i .i64,.i .i64,.s,.l 53,.l 9,.l 131] (rAt l4 i):=wA.row rfl (by rw [Int.toNat_natCast];exact hi)
         have hq:csD (rowC [.i .i64,.i .i64,.i .i64,.s,.l 53,.l 9,.l 131] (rAt l4 i))=(rAt l4 i):=csD_rowC we
         first
           | exact ⟨_,we,sm.lst (i:=i) hi,rfl⟩
           | (show (i:Int) < (l4.length:Int);omega)
           | (show (Int.toNat (i:Int)) < _;rw [Int.toNat_natCast];exact hi)
           | (show (strRows _).length+1≤maxLen;rw [strRows_len,List.length_map,List.length_take];simp only [maxLen];omega)
           | (show ((strRows _).length+1) * 16≤_;rw [strRows_len,List.length_map,List.length_take];omega)
           | (show Alive _ _;exact rfl)
           | (refine ⟨l4.length - (i+1),by omega,i+1,?_,by omega,rfl⟩
              exact snapRZ (f:=fun r z=>(([.ptr 1 1 0,.val false [.sl true 9 r],argS 53 l4,.val false [.i .i64 l4.length],.val false [.i .i64 z]],[(1,(rowC [.i .i64,.i .i64,.i .i64,.s,.l 53,.l 9,.l 131] [.i 3,.i n1,.i n2,.s s3,.l l4,.l [],.l []]).map fun c=>.val false [c])]):Snap)) (appN (f:=fmtO) hi (congrArg fmtO hq)) (wrapN hi hl)))
      | skip
    have hi:¬ i < l4.length:=nltN (by assumption)
    have hb:=elO_brk (k:=i) el8'
    refine awp_loop (Q:=_) [1,3,60,61,62] [1] (fun m st=>st=([.ptr 1 1 0,.val false [.sl true 9 (strRows ((l4.take i).map fmtO))],argS 131 [],.val false [.i .i64 (([]:List (List D)).length:Int)],.val false [.i .i64 0]],[(1,(rowC [.i .i64,.i .i64,.i .i64,.s,.l 53,.l 9,.l 131] [.i 3,.i n1,.i n2,.s s3,.l l4,.l [],.l []]).map fun c=>.val false [c])])) ?_ ?_
    · exact ⟨rfl,0,rfl⟩
    rintro m st rfl
    repeat' first
      | (refine And.intro ?_ ?_)
      | (intro h;simp only [reduceCtorEq] at h;done)
      | (intro h;rw [h])
      | (intro h)
    all_goals first
      | (show lowEdges _=true;kernel_rfl)|(show logOk _ _=true;kernel_rfl)|exact True.intro|exact Or.inr rfl|exact Or.inl rfl
      | exact absurd (of_decide_eq_true (by assumption:decide ((0:Int) < (([]:List (List D)).length:Int))=true)) (by decide)
      | (refine ⟨strRows ((l4.take i).map fmtO),⟨by rw [strRows_len,List.length_map,List.length_take];omega,by rw [strsOf_rows];omega⟩,rfl⟩)
      | (refine resS ?_
         show brk (strsOf (strRows ((l4.take i).map fmtO)))=fmtO (csD (rowC [.i .i64,.i .i64,.i .i64,.s,.l 53,.l 9,.l 131] [.i 3,.i n1,.i n2,.s s3,.l l4,.l [],.l []]))
         rw [hd,fmtO_yes ho,strsOf_rows,take_end hi,hmap]
         exact fm3)
      | skip
  · have z1:(itoaB n1).size≤11:=itoaB_11 (okV_str ho rfl).1
    have z2:(itoaB n2).size≤11:=itoaB_11 (okV_str ho rfl).2
    repeat' first
      | (refine And.intro ?_ ?_)
      | (intro h;exact absurd (h.symm.trans hnn) Bool.noConfusion)
      | (intro h;cases h)
      | (intro h;rw [h])
      | (intro h)
    all_goals first
      | (show lowEdges _=true;kernel_rfl)|(show logOk _ _=true;kernel_rfl)|exact True.intro|exact Or.inr rfl|exact Or.inl rfl
      | exact ⟨_,wr,sm.2,rfl⟩
      | exact ⟨_,rfl⟩
      | (refine resS ?_;show _=fmtO (csD (rowC [.i .i64,.i .i64,.i .i64,.s,.l 53,.l 9,.l 131] [.i 4,.i n1,.i n2,.s s3,.l l4,.l l5,.l l6]));rw [hd,fmtO_yes ho];exact fm4)
      | (show 6+(itoaB n1).size≤maxLen;simp only [maxLen];omega)
      | (show (RNG++itoaB n1).size+2≤maxLen;simp only [app_size,maxLen];omega)
      | (show (RNG++itoaB n1++COMMA).size+(itoaB n2).size≤maxLen;simp only [app_size,maxLen];omega)
      | (show (RNG++itoaB n1++COMMA++itoaB n2).size+1≤maxLen;simp only [app_size,maxLen];omega)
      | skip
  · have z4:l4.length=0:=pp.1.resolve_left (by decide)
    obtain rfl:=List.length_eq_zero_iff.1 z4
    obtain ⟨tc,t12,tr⟩:=tblV_at (okV_tbl ho rfl).1
    have zc:=colsT_size tc
    have c4:=cols_at tc
    have zc' : (joinT (strsOf l5) ⟨#[32]⟩).size≤36:=zc
    have zr:(rowsT l6).size≤674:=rowsT_size c4.2.1 t12 tr
    have c4' : l5.length≤4:=c4.2.1
    have t12' : l6.length≤12:=t12
    have wA:WfD T (.l 131) (.l l6):=wr.rows (j:=6) rfl
    have hl:=wA.len
    repeat' first
      | (refine And.intro ?_ ?_)
      | (intro h;exact absurd (h.symm.trans hnn) Bool.noConfusion)
      | (intro h;cases h)
      | (intro h;rw [h])
      | (intro h)
    all_goals first
      | (show lowEdges _=true;kernel_rfl)|(show logOk _ _=true;kernel_rfl)|exact True.intro|exact Or.inr rfl|exact Or.inl rfl
      | exact ⟨_,wr,sm.2,rfl⟩
      | skip
    refine awp_loop (Q:=_) [1,3,47,48,49] [1] (fun m st=>st=([.ptr 1 1 0,.val false [.sl true 9 []],argS 53 [],.val false [.i .i64 (([]:List (List D)).length:Int)],.val false [.i .i64 0]],[(1,(rowC [.i .i64,.i .i64,.i .i64,.s,.l 53,.l 9,.l 131] [.i 5,.i n1,.i n2,.s s3,.l [],.l l5,.l l6]).map fun c=>.val false [c])])) ?_ ?_
    · exact ⟨rfl,0,rfl⟩
    rintro m st rfl
    repeat' first
      | (refine And.intro ?_ ?_)
      | (intro h;simp only [reduceCtorEq] at h;done)
      | (intro h;rw [h])
      | (intro h)
    all_goals first
      | (show lowEdges _=true;kernel_rfl)|(show logOk _ _=true;kernel_rfl)|exact True.intro|exact Or.inr rfl|exact Or.inl rfl
      | exact absurd (of_decide_eq_true (by assumption:decide ((0:Int) < (([]:List (List D)).length:Int))=true)) (by decide)
      | skip
    refine awp_loop (Q:=_) [1,3,60,61,62] [1] (fun m st=>∃ i:Nat,st=([.ptr 1 1 0,.val false [.sl true 9 (strRows ((l6.take i).map rowT))],argS 131 l6,.val false [.i .i64 l6.length],.val false [.i .i64 (i:Int)]],[(1,(rowC [.i .i64,.i .i64,.i .i64,.s,.l 53,.l 9,.l 131] [.i 5,.i n1,.i n2,.s s3,.l [],.l l5,.l l6]).map fun c=>.val false [c])])∧i≤l6.length∧m=l6.length - i) ?_ ?_
    · exact ⟨rfl,l6.length,0,rfl,Nat.zero_le _,rfl⟩
    rintro m st ⟨i,rfl,hle,rfl⟩
    repeat' first
      | (refine And.intro ?_ ?_)
      | (intro h;simp only [reduceCtorEq] at h;done)
      | (intro h;rw [h])
      | (intro h)
    all_goals first
      | (show lowEdges _=true;kernel_rfl)|(show logOk _ _=true;kernel_rfl)|exact True.intro|exact Or.inr rfl|exact Or.inl rfl
      | with_reducible exact Int.natCast_nonneg _
      | (have hi:¬ i < l6.length:=nltN (by assumption)
         have hb:=rowT_brk (k:=i) c4.2.1 t12 tr
         have hb' : (brk ((l6.take i).map rowT)).size≤674:=hb
         have hr:brk (strsOf (strRows ((l6.take i).map rowT)))=rowsT l6:=by rw [strsOf_rows,take_end hi];rfl
         first
           | exact ⟨l5,_,by omega,by omega,rfl⟩
           | exact absurd (by assumption:((5:Int) == 5)=false) (by decide)
           | exact ⟨strRows ((l6.take i).map rowT),⟨by rw [strRows_len,List.length_map,List.length_take];omega,by rw [strsOf_rows];omega⟩,rfl⟩
           | (show 7+(joinT (strsOf l5) ⟨#[32]⟩).size≤maxLen;simp only [maxLen];omega)
           | (show (TBL++joinT (strsOf l5) ⟨#[32]⟩).size+3≤maxLen;simp only [app_size,maxLen];omega)
           | (show (TBL++joinT (strsOf l5) ⟨#[32]⟩++TBM).size+(brk (strsOf (strRows ((l6.take i).map rowT)))).size≤maxLen;rw [hr];simp only [app_size,maxLen];omega)
           | (show (TBL++joinT (strsOf l5) ⟨#[32]⟩++TBM++brk (strsOf (strRows ((l6.take i).map rowT)))).size+1≤maxLen;rw [hr];simp only [app_size,maxLen];omega)
           | (refine resS ?_
              show TBL++joinT (strsOf l5) ⟨#[32]⟩++TBM++brk (strsOf (strRows ((l6.take i).map rowT)))++RPA=fmtO (csD (rowC [.i .i64,.i .i64,.i .i64,.s,.l 53,.l 9,.l 131] [.i 5,.i n1,.i n2,.s s3,.l [],.l l5,.l l6]))
              rw [hd,fmtO_yes ho,hr]
              exact fm5))
      | (have hi:i < l6.length:=ltN (by assumption)
         first
           | (show (i:Int) < (l6.length:Int);omega)
           | (show (Int.toNat (i:Int)) < _;rw [Int.toNat_natCast];exact hi))
      | skip
    have hi:i < l6.length:=ltN (by assumption)
    have we:WfRow T [.l 3,.l 167] (rAt l6 i):=wA.row rfl (by rw [Int.toNat_natCast];exact hi)
    have wB:WfD T (.l 3) (.l ((rAt l6 i).getD 0 default).rows):=we.rows (j:=0) rfl
    have lb:=wB.len
    obtain ⟨hc1,_,hc3⟩:=row_at_ (tr i hi)
    have hc1' : ((rAt l6 i).getD 0 default).rows.length=l5.length:=hc1
    refine awp_loop (Q:=_) [1,3,60,61,62,7,8,68,69,70] [1,7] (fun m st=>∃ k:Nat,st=([.ptr 1 1 0,.val false [.sl true 9 (strRows ((l6.take i).map rowT))],argS 131 l6,.val false [.i .i64 l6.length],.val false [.i .i64 (i:Int)],.ptr 7 1 0,.val false [.sl true 9 (strRows ((((rAt l6 i).getD 0 default).rows.take k).map numT1))],argS 3 ((rAt l6 i).getD 0 default).rows,.val false [.i .i64 ((rAt l6 i).getD 0 default).rows.length],.val false [.i .i64 (k:Int)]],[(1,(rowC [.i .i64,.i .i64,.i .i64,.s,.l 53,.l 9,.l 131] [.i 5,.i n1,.i n2,.s s3,.l [],.l l5,.l l6]).map fun c=>.val false [c]),(1,(rowC [.l 3,.l 167] (rAt l6 i)).map fun c=>.val false [c])])∧k≤((rAt l6 i).getD 0 default).rows.length∧m=((rAt l6 i).getD 0 default).rows.length - k) ?_ ?_
    · exact ⟨rfl,((rAt l6 i).getD 0 default).rows.length,0,rfl,Nat.zero_le _,rfl⟩
    rintro m st ⟨k,rfl,kle,rfl⟩
    repeat' first
      | (refine And.intro ?_ ?_)
      | (intro h;simp only [reduceCtorEq] at h;done)
      | (intro h;rw [h])
      | (intro h)
    all_goals first
      | (show lowEdges _=true;kernel_rfl)|(show logOk _ _=true;kernel_rfl)|exact True.intro|exact Or.inr rfl|exact Or.inl rfl
      | with_reducible exact Int.natCast_nonneg _
      | (have hk:k < ((rAt l6 i).getD 0 default).rows.length:=ltN (by assumption)
         first
           | exact ⟨_,rfl⟩
           | (show (k:Int) < (((rAt l6 i).getD 0 default).rows.length:Int);omega)
           | (show (Int.toNat (k:Int)) < _;rw [Int.toNat_natCast];exact hk)
           | (show (strRows _).length+1≤maxLen;rw [strRows_len,List.length_map,List.length_take];simp only [maxLen];omega)
           | (show ((strRows _).length+1) * 16≤_;rw [strRows_len,List.length_map,List.length_take];omega)
           | (show Alive _ _;exact rfl)
           | (refine ⟨((rAt l6 i).getD 0 default).rows.length - (k+1),by omega,k+1,?_,by omega,rfl⟩
              exact snapRZ (f:=fun r z=>(([.ptr 1 1 0,.val false [.sl true 9 (strRows ((l6.take i).map rowT))],argS 131 l6,.val false [.i .i64 l6.length],.val false [.i .i64 (i:Int)],.ptr 7 1 0,.val false [.sl true 9 r],argS 3 ((rAt l6 i).getD 0 default).rows,.val false [.i .i64 ((rAt l6 i).getD 0 default).rows.length],.val false [.i .i64 z]],[(1,(rowC [.i .i64,.i .i64,.i .i64,.s,.l 53,.l 9,.l 131] [.i 5,.i n1,.i n2,.s s3,.l [],.l l5,.l l6]).map fun c=>.val false [c]),(1,(rowC [.l 3,.l 167] (rAt l6 i)).map fun c=>.val false [c])]):Snap)) (appN hk rfl) (wrapN hk lb)))
      | (have hk:¬ k < ((rAt l6 i).getD 0 default).rows.length:=nltN (by assumption)
         have hb:=numT_brk (n:=l5.length) (k:=k) (show ((rAt l6 i).getD 0 default).rows.length≤4 by omega) hc3
         first
           | exact ⟨strRows ((((rAt l6 i).getD 0 default).rows.take k).map numT1),⟨by rw [strRows_len,List.length_map,List.length_take];omega,by rw [strsOf_rows];omega⟩,rfl⟩
           | (show (strRows _).length+1≤maxLen;rw [strRows_len,List.length_map,List.length_take];simp only [maxLen];omega)
           | (show ((strRows _).length+1) * 16≤_;rw [strRows_len,List.length_map,List.length_take];omega)
           | (show Alive _ _;exact rfl)
           | (refine ⟨l6.length - (i+1),by omega,i+1,?_,by omega,rfl⟩
              refine snapRZ (f:=fun r z=>(([.ptr 1 1 0,.val false [.sl true 9 r],argS 131 l6,.val false [.i .i64 l6.length],.val false [.i .i64 z]],[(1,(rowC [.i .i64,.i .i64,.i .i64,.s,.l 53,.l 9,.l 131] [.i 5,.i n1,.i n2,.s s3,.l [],.l l5,.l l6]).map fun c=>.val false [c])]):Snap)) (appN (f:=rowT) hi ?_) (wrapN hi hl)
              show brk (strsOf (strRows ((((rAt l6 i).getD 0 default).rows.take k).map numT1)))=rowT (rAt l6 i)
              rw [strsOf_rows,take_end hk]
              rfl))
      | skip
  · have ze:=errB_size n1
    obtain ⟨e0,e1⟩:=okV_err ho rfl
    repeat' first
      | (refine And.intro ?_ ?_)
      | (intro h;exact absurd (h.symm.trans hnn) Bool.noConfusion)
      | (intro h;cases h)
      | (intro h;rw [h])
      | (intro h)
    all_goals first
      | (show lowEdges _=true;kernel_rfl)|(show logOk _ _=true;kernel_rfl)|exact True.intro|exact Or.inr rfl|exact Or.inl rfl
      | exact ⟨_,wr,sm.2,rfl⟩
      | exact ⟨_,e0,e1,rfl⟩
      | (refine resS ?_;show _=fmtO (csD (rowC [.i .i64,.i .i64,.i .i64,.s,.l 53,.l 9,.l 131] [.i 6,.i n1,.i n2,.s s3,.l l4,.l l5,.l l6]));rw [hd,fmtO_yes ho];exact fm6)
      | (show 6+(errB n1).size≤maxLen;simp only [maxLen];omega)
      | skip
theorem xrec54:∀ n,FOk Tryz.prog T 54 (spGT T [.i .i64,.i .i64,.i .i64,.s,.l 53,.l 9,.l 131] (SmN n) fmtO):=by
  intro n
  induction n with
  | zero =>
    refine fok (env:=envL []) (N:=100) tabT envL_nil mixed Tryz.func54 rfl Tryz.call54 Tryz.ntmps54 ?_
    rintro args ⟨a,wa,sm,rfl⟩ _
    exact absurd sm.1 (Nat.not_lt_zero _)
  | succ n ih=>exact xstep54 n ih
theorem xk54:FOk Tryz.prog T 54 (spGT T [.i .i64,.i .i64,.i .i64,.s,.l 53,.l 9,.l 131] SmM fmtO):=FOk.lift xrec54 (fun args ⟨a,wa,sm,h⟩=>⟨wRow a+1,a,wa,⟨Nat.lt_succ_self _,sm⟩,h⟩) (fun n=>rfl)
end Go.Proofs.YtkpnfbdoaljkpaaGreatDoor.Ab
