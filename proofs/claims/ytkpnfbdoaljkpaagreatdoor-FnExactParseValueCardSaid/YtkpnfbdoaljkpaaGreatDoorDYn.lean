/- The reference's readers of lists, tables, values, exactly: printed by a program of this -/
import Derived.Test.YtkpnfbdoaljkpaaGreatDoorDYl
import Derived.Test.YtkpnfbdoaljkpaaGreatDoorDYi
namespace Go.Proofs.YtkpnfbdoaljkpaaGreatDoor.Ab
open Go.RowKit
set_option linter.unusedVariables false
set_option linter.unusedSimpArgs false
set_option maxRecDepth 100000
set_option maxHeartbeats 2000000
theorem xi97 (n:Nat) (hn:FOk Tryz.prog T 51 (spVP [.i .i64,.i .i64,.i .i64,.s,.l 53,.l 9,.l 131] (Fu n) (fun s k=>parF s n k))):FOk Tryz.prog T 97 (spLP 53 (Fu n) (fun s k=>itmP (parF s n) s k)):=by
  refine fok (env:=envL [(94,spStarts),(51,(spVP [.i .i64,.i .i64,.i .i64,.s,.l 53,.l 9,.l 131] (Fu n) (fun s k=>parF s n k)))]) (N:=47) tabT (envL_cons xk94 (envL_cons hn envL_nil)) mixed Tryz.func97 rfl Tryz.call97 Tryz.ntmps97 ?_
  rintro args ⟨s,k,hp,hf,rfl⟩ hwf
  refine ⟨by simp,?_⟩
  clear hwf
  rw [Tryz.results97]
  repeat' first
    | (refine And.intro ?_ ?_)
    | (intro h;simp only [reduceCtorEq] at h;done)
    | (intro h;rw [h])
    | (intro h)
  all_goals first
    | (show lowEdges _=true;kernel_rfl)|(show logOk _ _=true;kernel_rfl)|exact True.intro|exact Or.inr rfl|exact Or.inl rfl
    | exact ⟨_,_,_,hp,by decide,rfl⟩
    | exact resL (itm_1 (by assumption)) rfl (posC hp (w:=RBR) (by decide) (by assumption)).1
    | skip
  have hr:stB s k RBR=false:=by assumption
  refine awp_loop (Q:=_) [0,1,6] [] (fun m st=>∃ (j:Int) (out:List (List D)),st=([sArg s,iArg j,.val false [.sl true 53 out]],[])∧k≤j∧PosIn s j∧out.length+m=64∧itemsF (parF s n) s m j out=itmP (parF s n) s k) ?_ ?_
  · exact ⟨rfl,64,k,[],rfl,Int.le_refl _,hp,rfl,(itm_2 hr).symm⟩
  rintro m st ⟨j,out,rfl,hj,pj,hm,hI⟩
  repeat' first
    | (refine And.intro ?_ ?_)
    | (intro h;simp only [reduceCtorEq] at h;done)
    | (intro h;rw [h])
    | (intro h)
  all_goals first
    | (show lowEdges _=true;kernel_rfl)|(show logOk _ _=true;kernel_rfl)|exact True.intro|exact Or.inr rfl|exact Or.inl rfl
    | exact ⟨_,_,pj,hf.of hj,rfl⟩
    | (have h0:decide (j ≥ 0)=false:=by assumption
       exact absurd pj.2.1 (by have:=of_decide_eq_false h0;omega))
    | exact resL (hI.symm.trans (itF_0 hm (by assumption))) rfl rfl
    | (obtain ⟨m, rfl⟩:=itF_s hm (by assumption)
       first
         | exact resL (hI.symm.trans (itF_1 (by assumption))) rfl rfl
         | (have hn0:decide ((parF s n j).2 < 0)=false:=by assumption
            have pin:=par_in pj hn0
            have w7:csD (rowC [.i .i64,.i .i64,.i .i64,.s,.l 53,.l 9,.l 131] (parF s n j).1)=(parF s n j).1:=csD_rowC (wf_par pj.1 n j pj.2.1 pj.2.2)
            first
              | exact ⟨_,_,_,pin.1,by decide,rfl⟩
              | (show out.length+1≤maxLen;simp only [maxLen];omega)
              | (show (out.length+1) * 112≤_;omega)
              | (refine resL (hI.symm.trans (itF_2 hn0 (by assumption))) ?_ (posC pin.1 (w:=RBR) (by decide) (by assumption)).1
                 show out++([]++[csD (rowC [.i .i64,.i .i64,.i .i64,.s,.l 53,.l 9,.l 131] (parF s n j).1)])=out++[(parF s n j).1]
                 rw [w7];rfl)
              | exact resL (hI.symm.trans (itF_3 hn0 (by assumption) (by assumption))) rfl rfl
              | (show Alive _ _;exact rfl)
              | (have hc:=(by assumption:(!stB s (parF s n j).2 COMMA)=false)
                 have hq:=posC pin.1 (w:=COMMA) (by decide) (of_notF hc)
                 have hq1:IntKind.i64.wrap ((parF s n j).2+2)=(parF s n j).2+2:=hq.1
                 refine ⟨m,Nat.lt_succ_self _,(parF s n j).2+2,out++[(parF s n j).1],?_,by omega,hq.2,by rw [List.length_append,List.length_singleton];omega,(itF_4 hn0 (by assumption) hc).symm.trans hI⟩
                 refine snapRZ (f:=fun r z=>(([sArg s,iArg z,.val false [.sl true 53 r]],[]):Snap)) (a:=IntKind.i64.wrap ((parF s n j).2+2)) (r:=out++([]++[csD (rowC [.i .i64,.i .i64,.i .i64,.s,.l 53,.l 9,.l 131] (parF s n j).1)])) ?_ hq1
                 rw [w7];rfl)))
    | skip
theorem xp51 (n:Nat) (hi:FOk Tryz.prog T 97 (spLP 53 (Fu n) (fun s k=>itmP (parF s n) s k))) (ht:FOk Tryz.prog T 99 (spVP [.i .i64,.i .i64,.i .i64,.s,.l 53,.l 9,.l 131] (Fu n) (fun s k=>tabP (itmP (parF s n) s) s k))):FOk Tryz.prog T 51 (spVP [.i .i64,.i .i64,.i .i64,.s,.l 53,.l 9,.l 131] (Fu (n+1)) (fun s k=>parF s (n+1) k)):=by
  refine fok (env:=envL [(94,spStarts),(95,spQuoP),(96,(spMkT [.i .i64,.i .i64,.i .i64,.s,.l 53,.l 9,.l 131] vTxt)),(97,(spLP 53 (Fu n) (fun s k=>itmP (parF s n) s k))),(98,(spVP [.i .i64,.i .i64,.i .i64,.s,.l 53,.l 9,.l 131] (fun _ _=>True) strP)),(99,(spVP [.i .i64,.i .i64,.i .i64,.s,.l 53,.l 9,.l 131] (Fu n) (fun s k=>tabP (itmP (parF s n) s) s k))),(101,spErrC),(100,(spMk1 [.i .i64,.i .i64,.i .i64,.s,.l 53,.l 9,.l 131] vErr)),(102,spIntP),(103,(spMk1 [.i .i64,.i .i64,.i .i64,.s,.l 53,.l 9,.l 131] vNum))]) (N:=80) tabT (envL_cons xk94 (envL_cons xk95 (envL_cons xk96 (envL_cons hi (envL_cons xk98 (envL_cons ht (envL_cons xk101 (envL_cons xk100 (envL_cons xk102 (envL_cons xk103 envL_nil)))))))))) mixed Tryz.func51 rfl Tryz.call51 Tryz.ntmps51 ?_
  rintro args ⟨s,k,hp,hf,rfl⟩ hwf
  refine ⟨by simp,?_⟩
  clear hwf
  rw [Tryz.results51]
  repeat' first
    | (refine And.intro ?_ ?_)
    | (intro h;simp only [reduceCtorEq] at h;done)
    | (intro h;rw [h])
    | (intro h)
  all_goals first
    | (show lowEdges _=true;kernel_rfl)|(show logOk _ _=true;kernel_rfl)|exact True.intro|exact Or.inr rfl|exact Or.inl rfl
    | exact ⟨_,_,_,hp,by decide,rfl⟩
    | exact ⟨_,_,hp,rfl⟩
    | exact ⟨_,rfl⟩
    | exact ⟨_,_,rfl⟩
    | exact resV (par_1 (by assumption)) rfl rfl
    | exact resV (par_6 (by assumption:stB s k QUO=false) (by assumption:stB s k LBR=false) (by assumption:stB s k RNG=false) (by assumption:stB s k TBO=false) (by assumption:stB s k ERR=false)) rfl rfl
    | (have hy:=(by assumption:stB s k LBR=true)
       have hq:=posC hp (w:=LBR) (by decide) hy
       have hq1:IntKind.i64.wrap (k+1)=k+1:=hq.1
       have hq2:PosIn s (IntKind.i64.wrap (k+1)):=by rw [hq1];exact hq.2
       first
         | exact ⟨_,_,hq2,hf.less (by rw [hq1];exact Int.le_refl _),rfl⟩
         | exact resV (par_2 hq1 (by assumption:stB s k QUO=false) hy) rfl rfl)
    | (have hy:=(by assumption:stB s k RNG=true)
       have hq:=posC hp (w:=RNG) (by decide) hy
       have hq1:IntKind.i64.wrap (k+6)=k+6:=hq.1
       have hq2:PosIn s (IntKind.i64.wrap (k+6)):=by rw [hq1];exact hq.2
       first
         | exact ⟨_,_,hq2,trivial,rfl⟩
         | exact resV (par_3 hq1 (by assumption:stB s k QUO=false) (by assumption:stB s k LBR=false) hy) rfl rfl)
    | (have hy:=(by assumption:stB s k TBO=true)
       have hq:=posC hp (w:=TBO) (by decide) hy
       have hq1:IntKind.i64.wrap (k+6)=k+6:=hq.1
       have hq2:PosIn s (IntKind.i64.wrap (k+6)):=by rw [hq1];exact hq.2
       first
         | exact ⟨_,_,hq2,hf.less (by rw [hq1];omega),rfl⟩
         | exact resV (par_4 hq1 (by assumption:stB s k QUO=false) (by assumption:stB s k LBR=false) (by assumption:stB s k RNG=false) hy) rfl rfl)
    | (have hy:=(by assumption:stB s k ERR=true)
       have hq:=posC hp (w:=ERR) (by decide) hy
       have hq1:IntKind.i64.wrap (k+6)=k+6:=hq.1
       have hq2:PosIn s (IntKind.i64.wrap (k+6)):=by rw [hq1];exact hq.2
       first
         | exact hq2.2.1
         | exact hq2.2.2
         | exact Int.le_refl _
         | (refine resV (par_5 hq1 (by assumption:stB s k QUO=false) (by assumption:stB s k LBR=false) (by assumption:stB s k RNG=false) (by assumption:stB s k TBO=false) hy) ?_ rfl;rfl))
    | skip
theorem xt99 (n:Nat) (itm:ByteArray→Int→List (List D) × Int) (hpos:∀ s k,PosIn s k→(itm s k).2 = -1∨(k < (itm s k).2∧(itm s k).2≤s.size)) (hwt:∀ s k,PosIn s k→wRows (itm s k).1≤4194304) (hwf:∀ s k,PosIn s k→(itm s k).1.length≤64∧∀ r ∈ (itm s k).1,WfRow T cV r) (hi:FOk Tryz.prog T 97 (spLP 53 (Fu n) itm)):FOk Tryz.prog T 99 (spVP [.i .i64,.i .i64,.i .i64,.s,.l 53,.l 9,.l 131] (Fu n) (fun s k=>tabP (itm s) s k)):=by
  refine fok (env:=envL [(95,spQuoP),(94,spStarts),(97,(spLP 53 (Fu n) itm)),(64,(spSplit true))]) (N:=88) tabT (envL_cons xk95 (envL_cons xk94 (envL_cons hi (envL_cons ok64 envL_nil)))) mixed Tryz.func99 rfl Tryz.call99 Tryz.ntmps99 ?_
  rintro args ⟨s,k,hp,hf,rfl⟩ hwf'
  clear hwf'
  refine ⟨by simp,?_⟩
  rw [Tryz.results99]
  repeat' first
    | (refine And.intro ?_ ?_)
    | (intro h;simp only [reduceCtorEq] at h;done)
    | (intro h;rw [h])
    | (intro h)
  all_goals first
    | (show lowEdges _=true;kernel_rfl)|(show logOk _ _=true;kernel_rfl)|exact True.intro|exact Or.inr rfl|exact Or.inl rfl
    | exact ⟨_,_,hp,rfl⟩
    | exact resV (tab_1 (by assumption)) rfl rfl
    | exact resV (tab_2 (by assumption) (by assumption)) rfl rfl
    | exact ⟨_,_,_,quo_in hp (by assumption),by decide,rfl⟩
    | (have c0:decide ((quoP s k).2 < 0)=false:=by assumption
       have c1:(!stB s (quoP s k).2 CLB)=false:=by assumption
       have hq:=posC (quo_in hp c0) (w:=CLB) (by decide) (of_notF c1)
       have hy:(IntKind.i64.wrap ((quoP s k).2+3))=(quoP s k).2+3:=hq.1
       have py:PosIn s (IntKind.i64.wrap ((quoP s k).2+3)):=by rw [hy];exact hq.2
       have gk:k≤(IntKind.i64.wrap ((quoP s k).2+3)):=by
         rw [hy]
         rcases quoP_pos hp.2.1 hp.2.2 with h|h
         · have:=of_decide_eq_false c0;omega
         · omega
       first
         | exact ⟨_,_,py,hf.of gk,rfl⟩
         | exact resV (tab_3 hy c0 c1 (by assumption)) rfl rfl
         | exact resV (tab_4 hy c0 c1 (by assumption) (by assumption)) rfl rfl
         | (have c2:decide ((itm s (IntKind.i64.wrap ((quoP s k).2+3))).2 < 0)=false:=by assumption
            have pin:PosIn s (itm s (IntKind.i64.wrap ((quoP s k).2+3))).2:=by
              rcases hpos s (IntKind.i64.wrap ((quoP s k).2+3)) py with h|h
              · have:=of_decide_eq_false c2;omega
              · exact ⟨py.1,by have:=py.2.1;omega,h.2⟩
            first
              | exact ⟨_,_,_,pin,by decide,rfl⟩
              | (refine ⟨_,?_,rfl⟩
                 rcases quoP_pos hp.2.1 hp.2.2 with h|h
                 · rw [h.2];decide
                 · have:=hp.1;have:=hp.2.1;omega)))
    | skip
  have c0:decide ((quoP s k).2 < 0)=false:=by assumption
  have c1:(!stB s (quoP s k).2 CLB)=false:=by assumption
  have c2:decide ((itm s (IntKind.i64.wrap ((quoP s k).2+3))).2 < 0)=false:=by assumption
  have c3:(!stB s (itm s (IntKind.i64.wrap ((quoP s k).2+3))).2 RPA)=false:=by assumption
  have hq:=posC (quo_in hp c0) (w:=CLB) (by decide) (of_notF c1)
  have hy:(IntKind.i64.wrap ((quoP s k).2+3))=(quoP s k).2+3:=hq.1
  have py:PosIn s (IntKind.i64.wrap ((quoP s k).2+3)):=by rw [hy];exact hq.2
  have pin:PosIn s (itm s (IntKind.i64.wrap ((quoP s k).2+3))).2:=by
    rcases hpos s (IntKind.i64.wrap ((quoP s k).2+3)) py with h|h
    · have:=of_decide_eq_false c2;omega
    · exact ⟨py.1,by have:=py.2.1;omega,h.2⟩
  have hz:=(posC pin (w:=RPA) (by decide) (of_notF c3)).1
  have hw:=hwf s (IntKind.i64.wrap ((quoP s k).2+3)) py
  have hwr:=hwt s (IntKind.i64.wrap ((quoP s k).2+3)) py
  generalize hR:itm s (IntKind.i64.wrap ((quoP s k).2+3))=R at *
  have hl:R.1.length≤64:=hw.1
  have hl' : R.1.length≤maxLen:=Nat.le_trans hl (by decide)
  refine awp_loop (Q:=_) [4,8,9,10,11] [4,10] (fun m st=>∃ i:Nat,st=([.ptr 4 1 0,argS 53 R.1,iArg R.2,.ptr 10 1 0,iArg (i:Int)],[(1,[.val false [.i .i64 0],.val false [.i .i64 0],.val false [.i .i64 0],.val false [.s ByteArray.empty],.val false [.sl true 53 []],.val false [.sl true 9 []],.val false [.sl true 131 []]]),(1,[.val false [.i .i64 5],.val false [.i .i64 0],.val false [.i .i64 0],.val false [.s ByteArray.empty],.val false [.sl true 53 []],.val false [.sl true 9 (strRows (wordsB (quoP s k).1))],.val false [.sl true 131 ((R.1.take i).map rowOfV)]])])∧i≤R.1.length∧m=R.1.length - i) ?_ ?_
  · exact ⟨rfl,R.1.length,0,rfl,Nat.zero_le _,rfl⟩
  rintro m st ⟨i,rfl,hle,rfl⟩
  repeat' first
    | (refine And.intro ?_ ?_)
    | (intro h;simp only [reduceCtorEq] at h;done)
    | (intro h;rw [h])
    | (intro h)
  all_goals first
    | (show lowEdges _=true;kernel_rfl)|(show logOk _ _=true;kernel_rfl)|exact True.intro|exact Or.inr rfl|exact Or.inl rfl
    | (have hi:¬ i < R.1.length:=nltN (by assumption)
       refine resV (tab_5 (itm:=itm s) (y:=(IntKind.i64.wrap ((quoP s k).2+3))) hy c0 c1 (by rw [hR];exact c2) (by rw [hR];exact c3)) ?_ (by rw [hR];exact hz)
       rw [hR]
       rw [take_end hi]
       rfl)
    | skip
  have hi:i < R.1.length:=ltN (by assumption)
  have wv:WfRow T cV (rAt R.1 i):=by
    refine hw.2 _ ?_
    show R.1.getD i [] ∈ R.1
    rw [List.getD_eq_getElem?_getD,List.getElem?_eq_getElem hi]
    exact List.getElem_mem hi
  have wl:=(wv.rows (j:=4) rfl).len
  have wl' : (lst (rAt R.1 i)).length≤maxLen:=wl
  have wvl:(lst (rAt R.1 i)).length≤4194304:=by
    have h1:=wRow_le hi
    have h2:=wRows_cell (rAt R.1 i) 4
    have h3:wRow (rAt R.1 i)≤wRows R.1:=h1
    show ((rAt R.1 i).getD 4 default).rows.length≤_
    omega
  refine awp_loop (Q:=_) [4,8,9,10,11,12,13] [4,10,12] (fun m st=>∃ k' : Nat,st=([.ptr 4 1 0,argS 53 R.1,iArg R.2,.ptr 10 1 0,iArg (i:Int),.ptr 12 1 0,iArg (k' : Int)],[(1,[.val false [.i .i64 0],.val false [.i .i64 0],.val false [.i .i64 0],.val false [.s ByteArray.empty],.val false [.sl true 53 []],.val false [.sl true 9 []],.val false [.sl true 131 []]]),(1,[.val false [.i .i64 5],.val false [.i .i64 0],.val false [.i .i64 0],.val false [.s ByteArray.empty],.val false [.sl true 53 []],.val false [.sl true 9 (strRows (wordsB (quoP s k).1))],.val false [.sl true 131 ((R.1.take i).map rowOfV)]]),(1,[.val false [.sl true 3 (((lst (rAt R.1 i)).take k').map fun y=>[D.i (iAt y 1)])],.val false [.sl true 167 []]])])∧k' ≤ (lst (rAt R.1 i)).length∧m=(lst (rAt R.1 i)).length - k') ?_ ?_
  · exact ⟨rfl,(lst (rAt R.1 i)).length,0,rfl,Nat.zero_le _,rfl⟩
  rintro m st ⟨k',rfl,kle,rfl⟩
  repeat' first
    | (refine And.intro ?_ ?_)
    | (intro h;simp only [reduceCtorEq] at h;done)
    | (intro h;rw [h])
    | (intro h)
  all_goals first
    | (show lowEdges _=true;kernel_rfl)|(show logOk _ _=true;kernel_rfl)|exact True.intro|exact Or.inr rfl|exact Or.inl rfl
    | with_reducible exact Int.natCast_nonneg _
    | (show (i:Int) < _;omega)
    | (show (Int.toNat (i:Int)) < _;rw [Int.toNat_natCast];exact hi)
    | (have hk:k' < (lst (rAt R.1 i)).length:=ltN (by assumption)
       first
         | (show (k' : Int) < ((lst (rAt R.1 i)).length:Int);omega)
         | (show (Int.toNat (k' : Int)) < _;rw [Int.toNat_natCast];exact hk)
         | exact wf_int (wf_lst wv (by show (lst (rAt R.1 i)).getD k' [] ∈ _;rw [List.getD_eq_getElem?_getD,List.getElem?_eq_getElem hk];exact List.getElem_mem hk))
         | (show (((lst (rAt R.1 i)).take k').map _).length+1≤maxLen;rw [List.length_map,List.length_take];omega)
         | (show ((((lst (rAt R.1 i)).take k').map _).length+1) * 8≤_;rw [List.length_map,List.length_take];omega)
         | (show Alive _ _;exact rfl)
         | (refine ⟨(lst (rAt R.1 i)).length - (k' + 1),by omega,k' + 1,?_,by omega,rfl⟩
            exact snapRZ (f:=fun r z=>(([.ptr 4 1 0,argS 53 R.1,iArg R.2,.ptr 10 1 0,iArg (i:Int),.ptr 12 1 0,iArg z],[(1,[.val false [.i .i64 0],.val false [.i .i64 0],.val false [.i .i64 0],.val false [.s ByteArray.empty],.val false [.sl true 53 []],.val false [.sl true 9 []],.val false [.sl true 131 []]]),(1,[.val false [.i .i64 5],.val false [.i .i64 0],.val false [.i .i64 0],.val false [.s ByteArray.empty],.val false [.sl true 53 []],.val false [.sl true 9 (strRows (wordsB (quoP s k).1))],.val false [.sl true 131 ((R.1.take i).map rowOfV)]]),(1,[.val false [.sl true 3 r],.val false [.sl true 167 []]])]):Snap)) (rows_next (fun y=>[D.i (iAt y 1)]) hk) (wrapN hk wl')))
    | (have hk:¬ k' < (lst (rAt R.1 i)).length:=nltN (by assumption)
       first
         | (show ((R.1.take i).map rowOfV).length+1≤maxLen;rw [List.length_map,List.length_take];simp only [maxLen];omega)
         | (show (((R.1.take i).map rowOfV).length+1) * 48≤_;rw [List.length_map,List.length_take];omega)
         | (show Alive _ _;exact rfl)
         | (refine ⟨R.1.length - (i+1),by omega,i+1,?_,by omega,rfl⟩
            refine snapRZ (f:=fun r z=>(([.ptr 4 1 0,argS 53 R.1,iArg R.2,.ptr 10 1 0,iArg z],[(1,[.val false [.i .i64 0],.val false [.i .i64 0],.val false [.i .i64 0],.val false [.s ByteArray.empty],.val false [.sl true 53 []],.val false [.sl true 9 []],.val false [.sl true 131 []]]),(1,[.val false [.i .i64 5],.val false [.i .i64 0],.val false [.i .i64 0],.val false [.s ByteArray.empty],.val false [.sl true 53 []],.val false [.sl true 9 (strRows (wordsB (quoP s k).1))],.val false [.sl true 131 r]])]):Snap)) ?_ (wrapN hi hl')
            refine Eq.trans ?_ (rows_next rowOfV hi)
            rw [take_end hk]
            rfl))
    | skip
theorem xpar51:∀ n,FOk Tryz.prog T 51 (spVP [.i .i64,.i .i64,.i .i64,.s,.l 53,.l 9,.l 131] (Fu n) (fun s k=>parF s n k)):=by
  intro n
  induction n with
  | zero =>
    exact fok (env:=envL []) (N:=80) tabT envL_nil mixed Tryz.func51 rfl Tryz.call51 Tryz.ntmps51 fun args h=>by
        obtain ⟨s,k,hp,hf,rfl⟩:=h
        have:=hp.2.2
        unfold Fu at hf
        omega
  | succ n ih =>
    have hi:FOk Tryz.prog T 97 (spLP 53 (Fu n) (fun s k=>itmP (parF s n) s k)):=xi97 n ih
    exact xp51 n hi (xt99 n (fun s k=>itmP (parF s n) s k) (fun s k hp=>by
      rcases itmP_pos (par:=parF s n) (s:=s) (k0:=k) (fun j hk hs=>parF_pos s n j (by have:=hp.2.1;omega) hs) hp.2.2 with h|h
      · exact .inl h.1
      · exact .inr ⟨h.1,h.2.1⟩) (fun s k hp=>by
      rcases itmP_pos (par:=parF s n) (s:=s) (k0:=k) (fun j hk hs=>parF_pos s n j (by have:=hp.2.1;omega) hs) hp.2.2 with h|h
      · show wRows (itmP (parF s n) s k).1≤_
        rw [h.2];exact Nat.zero_le _
      · have:=hp.1;have:=hp.2.1
        show wRows (itmP (parF s n) s k).1≤_
        omega) (fun s k hp=>wf_itm (par:=parF s n) (s:=s) (k0:=k) (fun j hk hs=>parF_pos s n j (by have:=hp.2.1;omega) hs) (fun j hk hs=>wf_par hp.1 n j (by have:=hp.2.1;omega) hs) hp.2.2) hi)
theorem xv24 (n:Nat) (par:ByteArray→Int→List D × Int) (hwf:∀ s,s.size≤1048576→WfRow T cV (par s 0).1) (hwt:∀ s,s.size≤1048576→wRow (par s 0).1≤WM) (hp:FOk Tryz.prog T 51 (spVP [.i .i64,.i .i64,.i .i64,.s,.l 53,.l 9,.l 131] (Fu n) par)):FOk Tryz.prog T 24 (spPV [.i .i64,.i .i64,.i .i64,.s,.l 53,.l 9,.l 131] n (fun s=>pvOf (par s 0).1 ((par s 0).2 == (s.size:Int)) s)):=by
  refine fok (env:=envL [(51,(spVP [.i .i64,.i .i64,.i .i64,.s,.l 53,.l 9,.l 131] (Fu n) par)),(52,(spGT T [.i .i64,.i .i64,.i .i64,.s,.l 53,.l 9,.l 131] SmM fmtO))]) (N:=27) tabT (envL_cons hp (envL_cons xk52 envL_nil)) mixed Tryz.func24 rfl Tryz.call24 Tryz.ntmps24 ?_
  rintro args ⟨s,hs,hn,rfl⟩ hwf'
  clear hwf'
  have w:=hwf s hs
  have wt:=hwt s hs
  have w7:csD (rowC [.i .i64,.i .i64,.i .i64,.s,.l 53,.l 9,.l 131] (par s 0).1)=(par s 0).1:=csD_rowC w
  refine ⟨by simp,?_⟩
  rw [Tryz.results24]
  repeat' first
    | (refine And.intro ?_ ?_)
    | (intro h;simp only [reduceCtorEq] at h;done)
    | (intro h;rw [h])
    | (intro h)
  all_goals first
    | (show lowEdges _=true;kernel_rfl)|(show logOk _ _=true;kernel_rfl)|exact True.intro|exact Or.inr rfl|exact Or.inl rfl
    | exact ⟨_,_,⟨hs,Int.le_refl _,Int.natCast_nonneg _⟩,(by unfold Fu;omega),rfl⟩
    | exact ⟨_,w,wt,rfl⟩
    | exact resVB (pv_1 (bne_T (by assumption))) rfl rfl
    | (have hz:(!(fmtO (par s 0).1).toList == s.toList)=true:=(by rw [← w7];assumption)
       exact resVB (pv_2 hz) rfl rfl)
    | exact resVB (pv_3 (by assumption)) rfl rfl
    | (have hz:(!(fmtO (par s 0).1).toList == s.toList)=false:=(by rw [← w7];assumption)
       exact resVB (pv_4 (bne_F (by assumption)) hz (by assumption)) rfl rfl)
    | skip
theorem xk24 (n:Nat):FOk Tryz.prog T 24 (spPV [.i .i64,.i .i64,.i .i64,.s,.l 53,.l 9,.l 131] n (pvS n)) :=
  xv24 n (fun s k=>parF s n k) (fun s hs=>wf_par hs n 0 (Int.le_refl _) (by omega)) (fun s hs=>by
    have h:=parF_pos s n 0 (Int.le_refl _) (by omega)
    show wRow (parF s n 0).1≤1099511627776
    rcases h with h|h
    · omega
    · omega) (xpar51 n)
end Go.Proofs.YtkpnfbdoaljkpaaGreatDoor.Ab
