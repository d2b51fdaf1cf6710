/- Texts of values in the reference, exactly: printed by a program of this claim. -/
import Derived.Test.YtppgalpldaibhaaGreatDoorDYf
import Derived.Test.YtppgalpldaibhaaGreatDoorDYd
import Derived.Test.YtppgalpldaibhaaGreatDoorDVc
namespace Go.Proofs.YtppgalpldaibhaaGreatDoor.Ab
open Go.RowKit
set_option linter.unusedVariables false
set_option linter.unusedSimpArgs false
set_option maxRecDepth 100000
set_option maxHeartbeats 2000000
theorem xk157:FOk Tryz.prog T 157 (spST 91 SmRows rowsT):=by
  refine fok (env:=envL [(117,spItoa),(141,spJoin)]) (N:=48) tabT (envL_cons ok117 (envL_cons ok141 envL_nil)) mixed Tryz.func157 rfl Tryz.call157 Tryz.ntmps157 ?_
  rintro args ⟨a,⟨n,hn,h12,hR⟩,rfl⟩ hwf
  have wa:WfD T (.l 91) (.l a):=arg0 hwf (List.mem_singleton_self _)
  have hl:=wa.len
  refine ⟨by simp,?_⟩
  clear hwf
  rw [Tryz.results157]
  repeat' first
    | (refine And.intro ?_ ?_)
    | (intro h;simp only [reduceCtorEq] at h;done)
    | (intro h;rw [h])
    | (intro h)
  all_goals first
    | (show lowEdges _=true;kernel_rfl)|(show logOk _ _=true;kernel_rfl)|exact True.intro|exact Or.inr rfl|exact Or.inl rfl
    | skip
  refine awp_loop (Q:=_) [0,3,4] [] (fun m st=>∃ i:Nat,st=([argS 91 a,.val false [.sl true 9 (strRows ((a.take i).map rowT))],.val false [.i .i64 (i:Int)]],[])∧i≤a.length∧m=a.length - i) ?_ ?_
  · exact ⟨rfl,a.length,0,rfl,Nat.zero_le _,rfl⟩
  rintro m st ⟨i,rfl,hle,rfl⟩
  repeat' first
    | (refine And.intro ?_ ?_)
    | (intro h;simp only [reduceCtorEq] at h;done)
    | (intro h;rw [h])
    | (intro h)
  all_goals first
    | (show lowEdges _=true;kernel_rfl)|(show logOk _ _=true;kernel_rfl)|exact True.intro|exact Or.inr rfl|exact Or.inl rfl
    | (have hi:¬ i < a.length:=nltN (by with_reducible assumption)
       have hb:=rowT_brk (k:=i) hn h12 hR
       have hj:=joinT_brk ((a.take i).map rowT)
       first
         | exact join_pre' (by omega) (by omega)
         | (refine resS ((join_rows _).trans ?_);rw [take_end hi];rfl)
         | (show 1+(joinT (strsOf (strRows ((a.take i).map rowT))) COMMA).size≤maxLen;rw [strsOf_rows];simp only [maxLen];omega)
         | (show (LBR++joinT (strsOf (strRows ((a.take i).map rowT))) COMMA).size+1≤maxLen;rw [strsOf_rows,app_size];simp only [maxLen];show 1+_+1≤_;omega))
    | skip
  have hi:i < a.length:=ltN (by assumption)
  have wr:WfRow T [.l 3,.l 153] (rAt a i):=wa.row rfl (by rw [Int.toNat_natCast];exact hi)
  have wB:WfD T (.l 3) (.l ((rAt a i).getD 0 default).rows):=wr.rows (j:=0) rfl
  have lb:=wB.len
  obtain ⟨hc1,_,hc3⟩:=row_at_ (hR i hi)
  refine awp_loop (Q:=_) [0,3,4,5,6] [] (fun m st=>∃ k:Nat,st=([argS 91 a,.val false [.sl true 9 (strRows ((a.take i).map rowT))],.val false [.i .i64 (i:Int)],.val false [.sl true 9 (strRows ((((rAt a i).getD 0 default).rows.take k).map numT1))],.val false [.i .i64 (k:Int)]],[])∧k≤((rAt a i).getD 0 default).rows.length∧m=((rAt a i).getD 0 default).rows.length - k) ?_ ?_
  · exact ⟨rfl,((rAt a i).getD 0 default).rows.length,0,rfl,Nat.zero_le _,rfl⟩
  rintro m st ⟨k,rfl,kle,rfl⟩
  repeat' first
    | (refine And.intro ?_ ?_)
    | (intro h;simp only [reduceCtorEq] at h;done)
    | (intro h;rw [h])
    | (intro h)
  all_goals first
    | (show lowEdges _=true;kernel_rfl)|(show logOk _ _=true;kernel_rfl)|exact True.intro|exact Or.inr rfl|exact Or.inl rfl
    | with_reducible exact Int.natCast_nonneg _
    | (show (i:Int) < _;omega)
    | (show (Int.toNat (i:Int)) < _;rw [Int.toNat_natCast];exact hi)
    | (have hk:k < ((rAt a i).getD 0 default).rows.length:=ltN (by assumption)
       first
         | exact ⟨_,rfl⟩
         | (show (k:Int) < (((rAt a i).getD 0 default).rows.length:Int);omega)
         | (show (Int.toNat (k:Int)) < _;rw [Int.toNat_natCast];exact hk)
         | (show (strRows _).length+1≤maxLen;rw [strRows_len,List.length_map,List.length_take];simp only [maxLen];omega)
         | (show ((strRows _).length+1) * 16≤_;rw [strRows_len,List.length_map,List.length_take];omega)
         | (show Alive _ _;exact rfl)
         | (refine ⟨((rAt a i).getD 0 default).rows.length - (k+1),by omega,k+1,?_,by omega,rfl⟩
            exact snapRZ (f:=fun r z=>(([argS 91 a,.val false [.sl true 9 (strRows ((a.take i).map rowT))],.val false [.i .i64 (i:Int)],.val false [.sl true 9 r],.val false [.i .i64 z]],[]):Snap)) (appN hk rfl) (wrapN hk lb)))
    | (have hk:¬ k < ((rAt a i).getD 0 default).rows.length:=nltN (by assumption)
       have hb:=numT_brk (n:=n) (k:=k) (show ((rAt a i).getD 0 default).rows.length≤4 by omega) hc3
       have hj:=joinT_brk ((((rAt a i).getD 0 default).rows.take k).map numT1)
       first
         | exact join_pre' (by omega) (by omega)
         | (show 1+(joinT (strsOf (strRows ((((rAt a i).getD 0 default).rows.take k).map numT1))) COMMA).size≤maxLen;rw [strsOf_rows];simp only [maxLen];omega)
         | (show (LBR++joinT (strsOf (strRows ((((rAt a i).getD 0 default).rows.take k).map numT1))) COMMA).size+1≤maxLen;rw [strsOf_rows,app_size];simp only [maxLen];show 1+_+1≤_;omega)
         | (show (strRows _).length+1≤maxLen;rw [strRows_len,List.length_map,List.length_take];simp only [maxLen];omega)
         | (show ((strRows _).length+1) * 16≤_;rw [strRows_len,List.length_map,List.length_take];omega)
         | (show Alive _ _;exact rfl)
         | (refine ⟨a.length - (i+1),by omega,i+1,?_,by omega,rfl⟩
            refine snapRZ (f:=fun r z=>(([argS 91 a,.val false [.sl true 9 r],.val false [.i .i64 z]],[]):Snap)) (appN (f:=rowT) hi ?_) (wrapN hi hl)
            refine (join_rows _).trans ?_
            rw [take_end hk]
            rfl))
    | skip
theorem xstep79 (n:Nat) (hn:FOk Tryz.prog T 79 (spGT T [.i .i64,.i .i64,.i .i64,.s,.l 33,.l 9,.l 91] (fun a=>SmN n a∧okV a=true) fmtV)):FOk Tryz.prog T 79 (spGT T [.i .i64,.i .i64,.i .i64,.s,.l 33,.l 9,.l 91] (fun a=>SmN (n+1) a∧okV a=true) fmtV):=by
  refine fok (env:=envL [(117,spItoa),(141,spJoin),(157,(spST 91 SmRows rowsT)),(158,spErr),(79,(spGT T [.i .i64,.i .i64,.i .i64,.s,.l 33,.l 9,.l 91] (fun a=>SmN n a∧okV a=true) fmtV))]) (N:=69) tabT (envL_cons ok117 (envL_cons ok141 (envL_cons xk157 (envL_cons ok158 (envL_cons hn envL_nil))))) mixed Tryz.func79 rfl Tryz.call79 Tryz.ntmps79 ?_
  rintro args ⟨a,wa,⟨sm,ho⟩,rfl⟩ hwf
  have hd:csD (rowC [.i .i64,.i .i64,.i .i64,.s,.l 33,.l 9,.l 91] a)=a:=csD_rowC wa
  have wr:=wa
  refine ⟨by simp,?_⟩
  clear hwf
  rw [Tryz.results79]
  obtain ⟨d0,r0,rfl,w0,wa⟩:=wa.cons'
  obtain ⟨d1,r1,rfl,w1,wa⟩:=wa.cons'
  obtain ⟨d2,r2,rfl,w2,wa⟩:=wa.cons'
  obtain ⟨d3,r3,rfl,w3,wa⟩:=wa.cons'
  obtain ⟨d4,r4,rfl,w4,wa⟩:=wa.cons'
  obtain ⟨d5,r5,rfl,w5,wa⟩:=wa.cons'
  obtain ⟨d6,r6,rfl,w6,wa⟩:=wa.cons'
  obtain rfl:=wa.nil'
  obtain ⟨n0,rfl,_⟩:=w0.int'
  obtain ⟨n1,rfl,_⟩:=w1.int'
  obtain ⟨n2,rfl,_⟩:=w2.int'
  obtain ⟨s3,rfl,_⟩:=w3.str'
  obtain ⟨l4,rfl,_⟩:=w4.sl'
  obtain ⟨l5,rfl,_⟩:=w5.sl'
  obtain ⟨l6,rfl,_⟩:=w6.sl'
  clear w0 w1 w2 w3 w4 w5 w6
  have eR:RNG.size=6:=rfl
  have eC:COMMA.size=2:=rfl
  have eP:RPA.size=1:=rfl
  have eT:TBL.size=7:=rfl
  have eM:TBM.size=3:=rfl
  have eE:ERR.size=6:=rfl
  have eL:LBR.size=1:=rfl
  have eB:RBR.size=1:=rfl
  have hk:n0=1∨n0=2∨n0=3∨n0=4∨n0=5∨n0=6:=okV_kind ho
  rcases hk with rfl|rfl|rfl|rfl|rfl|rfl
  · repeat' first
      | (refine And.intro ?_ ?_)
      | (intro h;cases h)
      | (intro h;rw [h])
      | (intro h)
    all_goals first
      | (show lowEdges _=true;kernel_rfl)|(show logOk _ _=true;kernel_rfl)|exact True.intro|exact Or.inr rfl|exact Or.inl rfl
      | exact ⟨_,rfl⟩
      | (refine resS ?_;show _=fmtV (csD (rowC [.i .i64,.i .i64,.i .i64,.s,.l 33,.l 9,.l 91] [.i 1,.i n1,.i n2,.s s3,.l l4,.l l5,.l l6]));rw [hd];exact fm1)
  · have z3:=okTxt_size (okV_txt ho rfl).1
    have z3' : s3.size≤20:=z3
    repeat' first
      | (refine And.intro ?_ ?_)
      | (intro h;cases h)
      | (intro h;rw [h])
      | (intro h)
    all_goals first
      | (show lowEdges _=true;kernel_rfl)|(show logOk _ _=true;kernel_rfl)|exact True.intro|exact Or.inr rfl|exact Or.inl rfl
      | (refine resS ?_;show _=fmtV (csD (rowC [.i .i64,.i .i64,.i .i64,.s,.l 33,.l 9,.l 91] [.i 2,.i n1,.i n2,.s s3,.l l4,.l l5,.l l6]));rw [hd];exact fm2)
      | (show 1+s3.size≤maxLen;simp only [maxLen];omega)
      | (show (QUO++s3).size+1≤maxLen;rw [app_size];show 1+s3.size+1≤maxLen;simp only [maxLen];omega)
  · have wA:WfD T (.l 33) (.l l4):=wr.rows (j:=4) rfl
    have hl:=wA.len
    obtain ⟨el,el8,_⟩:=listV_at (okV_list ho rfl).1
    have el8' : l4.length≤8:=el8
    repeat' first
      | (refine And.intro ?_ ?_)
      | (intro h;cases h)
      | (intro h;rw [h])
      | (intro h)
    all_goals first
      | (show lowEdges _=true;kernel_rfl)|(show logOk _ _=true;kernel_rfl)|exact True.intro|exact Or.inr rfl|exact Or.inl rfl
      | skip
    refine awp_loop (Q:=_) [1,3,4] [1] (fun m st=>∃ i:Nat,st=([.ptr 1 1 0,.val false [.sl true 9 (strRows ((l4.take i).map fmtV))],.val false [.i .i64 (i:Int)]],[(1,(rowC [.i .i64,.i .i64,.i .i64,.s,.l 33,.l 9,.l 91] [.i 3,.i n1,.i n2,.s s3,.l l4,.l l5,.l l6]).map fun c=>.val false [c])])∧i≤l4.length∧m=l4.length - i) ?_ ?_
    · exact ⟨rfl,l4.length,0,rfl,Nat.zero_le _,rfl⟩
    rintro m st ⟨i,rfl,hle,rfl⟩
    repeat' first
      | (refine And.intro ?_ ?_)
      | (intro h;simp only [reduceCtorEq] at h;done)
      | (intro h;rw [h])
      | (intro h)
    all_goals first
      | (show lowEdges _=true;kernel_rfl)|(show logOk _ _=true;kernel_rfl)|exact True.intro|exact Or.inr rfl|exact Or.inl rfl
      | with_reducible exact Int.natCast_nonneg _
      | (have hi:i < l4.length:=ltN (by assumption)
         have we:WfRow T [.i .i64,.i .i64,.i .i64,.s,.l 33,.l 9,.l 91] (rAt l4 i):=wA.row rfl (by rw [Int.toNat_natCast];exact hi)
         have hq:csD (rowC [.i .i64,.i .i64,.i .i64,.s,.l 33,.l 9,.l 91] (rAt l4 i))=(rAt l4 i):=csD_rowC we
         first
           | exact ⟨_,we,⟨sm.lst (i:=i) hi,(el i hi).2⟩,rfl⟩
           | (show (i:Int) < (l4.length:Int);omega)
           | (show (Int.toNat (i:Int)) < _;rw [Int.toNat_natCast];exact hi)
           | (show (strRows _).length+1≤maxLen;rw [strRows_len,List.length_map,List.length_take];simp only [maxLen];omega)
           | (show ((strRows _).length+1) * 16≤_;rw [strRows_len,List.length_map,List.length_take];omega)
           | (show Alive _ _;exact rfl)
           | (refine ⟨l4.length - (i+1),by omega,i+1,?_,by omega,rfl⟩
              exact snapRZ (f:=fun r z=>(([.ptr 1 1 0,.val false [.sl true 9 r],.val false [.i .i64 z]],[(1,(rowC [.i .i64,.i .i64,.i .i64,.s,.l 33,.l 9,.l 91] [.i 3,.i n1,.i n2,.s s3,.l l4,.l l5,.l l6]).map fun c=>.val false [c])]):Snap)) (appN (f:=fmtV) hi (congrArg fmtV hq)) (wrapN hi hl)))
      | (have hi:¬ i < l4.length:=nltN (by assumption)
         have hb:=el_brk (k:=i) ho rfl
         have hj:=joinT_brk ((l4.take i).map fmtV)
         have hb' : (brk ((l4.take i).map fmtV)).size≤16018:=hb
         first
           | exact join_pre' (by omega) (by omega)
           | (show 1+(joinT (strsOf (strRows ((l4.take i).map fmtV))) COMMA).size≤maxLen;rw [strsOf_rows];simp only [maxLen];omega)
           | (show (LBR++joinT (strsOf (strRows ((l4.take i).map fmtV))) COMMA).size+1≤maxLen;rw [strsOf_rows,app_size];simp only [maxLen];omega)
           | (refine resS ((join_rows _).trans ?_);rw [take_end hi];show _=fmtV (csD (rowC [.i .i64,.i .i64,.i .i64,.s,.l 33,.l 9,.l 91] [.i 3,.i n1,.i n2,.s s3,.l l4,.l l5,.l l6]));rw [hd];exact fm3))
      | skip
  · have z1:=itoaB_11 (okV_str ho rfl).1
    have z2:=itoaB_11 (okV_str ho rfl).2
    have z1' : (itoaB n1).size≤11:=z1
    have z2' : (itoaB n2).size≤11:=z2
    repeat' first
      | (refine And.intro ?_ ?_)
      | (intro h;cases h)
      | (intro h;rw [h])
      | (intro h)
    all_goals first
      | (show lowEdges _=true;kernel_rfl)|(show logOk _ _=true;kernel_rfl)|exact True.intro|exact Or.inr rfl|exact Or.inl rfl
      | exact ⟨_,rfl⟩
      | (refine resS ?_;show _=fmtV (csD (rowC [.i .i64,.i .i64,.i .i64,.s,.l 33,.l 9,.l 91] [.i 4,.i n1,.i n2,.s s3,.l l4,.l l5,.l l6]));rw [hd];exact fm4)
      | (show 6+(itoaB n1).size≤maxLen;simp only [maxLen];omega)
      | (show (RNG++itoaB n1).size+2≤maxLen;simp only [app_size,maxLen];omega)
      | (show (RNG++itoaB n1++COMMA).size+(itoaB n2).size≤maxLen;simp only [app_size,maxLen];omega)
      | (show (RNG++itoaB n1++COMMA++itoaB n2).size+1≤maxLen;simp only [app_size,maxLen];omega)
      | skip
  · obtain ⟨tc,t12,tr⟩:=tblV_at (okV_tbl ho rfl).1
    have zc:=colsT_size tc
    have c4:=cols_at tc
    have zc' : (joinT (strsOf l5) ⟨#[32]⟩).size≤36:=zc
    have zr:(rowsT l6).size≤674:=rowsT_size c4.2.1 t12 tr
    have c4' : l5.length≤4:=c4.2.1
    repeat' first
      | (refine And.intro ?_ ?_)
      | (intro h;cases h)
      | (intro h;rw [h])
      | (intro h)
    all_goals first
      | (show lowEdges _=true;kernel_rfl)|(show logOk _ _=true;kernel_rfl)|exact True.intro|exact Or.inr rfl|exact Or.inl rfl
      | exact ⟨l5,_,by omega,by omega,rfl⟩
      | exact ⟨l6,⟨l5.length,c4',t12,tr⟩,rfl⟩
      | (refine resS ?_;show _=fmtV (csD (rowC [.i .i64,.i .i64,.i .i64,.s,.l 33,.l 9,.l 91] [.i 5,.i n1,.i n2,.s s3,.l l4,.l l5,.l l6]));rw [hd];exact fm5)
      | (show 7+(joinT (strsOf l5) ⟨#[32]⟩).size≤maxLen;simp only [maxLen];omega)
      | (show (TBL++joinT (strsOf l5) ⟨#[32]⟩).size+3≤maxLen;simp only [app_size,maxLen];omega)
      | (show (TBL++joinT (strsOf l5) ⟨#[32]⟩++TBM).size+(rowsT l6).size≤maxLen;simp only [app_size,maxLen];omega)
      | (show (TBL++joinT (strsOf l5) ⟨#[32]⟩++TBM++rowsT l6).size+1≤maxLen;simp only [app_size,maxLen];omega)
      | skip
  · have ze:=errB_size n1
    obtain ⟨e0,e1⟩:=okV_err ho rfl
    repeat' first
      | (refine And.intro ?_ ?_)
      | (intro h;cases h)
      | (intro h;rw [h])
      | (intro h)
    all_goals first
      | (show lowEdges _=true;kernel_rfl)|(show logOk _ _=true;kernel_rfl)|exact True.intro|exact Or.inr rfl|exact Or.inl rfl
      | exact ⟨_,e0,e1,rfl⟩
      | (refine resS ?_;show _=fmtV (csD (rowC [.i .i64,.i .i64,.i .i64,.s,.l 33,.l 9,.l 91] [.i 6,.i n1,.i n2,.s s3,.l l4,.l l5,.l l6]));rw [hd];exact fm6)
      | (show 6+(errB n1).size≤maxLen;simp only [maxLen];omega)
      | skip
theorem xrec79:∀ n,FOk Tryz.prog T 79 (spGT T [.i .i64,.i .i64,.i .i64,.s,.l 33,.l 9,.l 91] (fun a=>SmN n a∧okV a=true) fmtV):=by
  intro n
  induction n with
  | zero =>
    refine fok (env:=envL []) (N:=69) tabT envL_nil mixed Tryz.func79 rfl Tryz.call79 Tryz.ntmps79 ?_
    rintro args ⟨a,wa,sm,rfl⟩ _
    exact absurd sm.1.1 (Nat.not_lt_zero _)
  | succ n ih=>exact xstep79 n ih
theorem xk79:FOk Tryz.prog T 79 (spGT T [.i .i64,.i .i64,.i .i64,.s,.l 33,.l 9,.l 91] (fun a=>SmM a∧okV a=true) fmtV):=FOk.lift xrec79 (fun args ⟨a,wa,sm,h⟩=>⟨wRow a+1,a,wa,⟨⟨Nat.lt_succ_self _,sm.1⟩,sm.2⟩,h⟩) (fun n=>rfl)
theorem xk22:FOk Tryz.prog T 22 (spGT T [.i .i64,.i .i64,.i .i64,.s,.l 33,.l 9,.l 91] SmM fmtO):=by
  refine fok (env:=envL [(23,(spGB T [.i .i64,.i .i64,.i .i64,.s,.l 33,.l 9,.l 91] SmM okV)),(79,(spGT T [.i .i64,.i .i64,.i .i64,.s,.l 33,.l 9,.l 91] (fun a=>SmM a∧okV a=true) fmtV))]) (N:=8) tabT (envL_cons xk23 (envL_cons xk79 envL_nil)) mixed Tryz.func22 rfl Tryz.call22 Tryz.ntmps22 ?_
  rintro args ⟨a,wa,sm,rfl⟩ hwf
  have hd:csD (rowC [.i .i64,.i .i64,.i .i64,.s,.l 33,.l 9,.l 91] a)=a:=csD_rowC wa
  refine ⟨by simp,?_⟩
  clear hwf
  rw [Tryz.results22]
  repeat' first
    | (refine And.intro ?_ ?_)
    | (intro h;simp only [reduceCtorEq] at h;done)
    | (intro h;rw [h])
    | (intro h)
  all_goals first
    | (show lowEdges _=true;kernel_rfl)|(show logOk _ _=true;kernel_rfl)|exact True.intro|exact Or.inr rfl|exact Or.inl rfl
    | exact ⟨_,wa,sm,rfl⟩
    | (have ho:okV a=true:=(by have h:=of_notF (by assumption:(!okV (csD (rowC [.i .i64,.i .i64,.i .i64,.s,.l 33,.l 9,.l 91] a)))=false);rwa [hd] at h);first|exact ⟨_,wa,⟨sm,ho⟩,rfl⟩|(refine resS ?_;show fmtV (csD (rowC [.i .i64,.i .i64,.i .i64,.s,.l 33,.l 9,.l 91] a))=fmtO (csD (rowC [.i .i64,.i .i64,.i .i64,.s,.l 33,.l 9,.l 91] a));rw [hd];exact (fmtO_yes ho).symm))
    | (have ho:okV a=false:=(by have h:=of_notT (by assumption:(!okV (csD (rowC [.i .i64,.i .i64,.i .i64,.s,.l 33,.l 9,.l 91] a)))=true);rwa [hd] at h);refine resS ?_;show _=fmtO (csD (rowC [.i .i64,.i .i64,.i .i64,.s,.l 33,.l 9,.l 91] a));rw [hd];exact (fmtO_no ho).symm)
    | skip
end Go.Proofs.YtppgalpldaibhaaGreatDoor.Ab
