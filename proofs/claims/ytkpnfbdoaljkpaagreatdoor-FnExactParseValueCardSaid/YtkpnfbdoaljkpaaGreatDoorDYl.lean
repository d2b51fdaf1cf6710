/- The reference's readers of values, exactly: printed by a program of this -/
import Derived.Test.YtkpnfbdoaljkpaaGreatDoorDYi
import Derived.Test.YtkpnfbdoaljkpaaGreatDoorDYj
import Derived.Test.YtkpnfbdoaljkpaaGreatDoorDPa
namespace Go.Proofs.YtkpnfbdoaljkpaaGreatDoor.Ab
open Go.RowKit
set_option linter.unusedVariables false
set_option linter.unusedSimpArgs false
set_option maxRecDepth 100000
set_option maxHeartbeats 2000000
theorem xk94:FOk Tryz.prog T 94 spStarts:=by
  refine fok (env:=envL []) (N:=25) tabT envL_nil mixed Tryz.func94 rfl Tryz.call94 Tryz.ntmps94 ?_
  rintro args ⟨s,w,k,hp,hw,rfl⟩ hwf
  have hx:IntKind.i64.wrap ((s.size:Int) - k)=(s.size:Int) - k:=by obtain ⟨a,b,d⟩:=hp;exact wr64 (by omega) (by omega)
  have hy:=posK hp (w.size:Int) (by omega) (by omega)
  refine ⟨by simp,?_⟩
  clear hwf
  rw [Tryz.results94]
  repeat' first
    | (refine And.intro ?_ ?_)
    | (intro h;simp only [reduceCtorEq] at h;done)
    | (intro h;rw [h])
    | (intro h)
  all_goals first
    | (show lowEdges _=true;kernel_rfl)|(show logOk _ _=true;kernel_rfl)|exact True.intro|exact Or.inr rfl|exact Or.inl rfl
    | exact resB (st_F hx (by assumption))
    | exact resB (st_T hx hy (by assumption))
    | (have h:=of_decide_eq_true (by assumption:decide (IntKind.i64.wrap ((s.size:Int) - k) ≥ (w.size:Int))=true);obtain ⟨a,b,d⟩:=hp;first|(show (0:Int)≤k;omega)|(show k≤IntKind.i64.wrap (k+(w.size:Int));omega)|(show IntKind.i64.wrap (k+(w.size:Int))≤(s.size:Int);omega))
    | skip
theorem xk103:FOk Tryz.prog T 103 (spMk1 [.i .i64,.i .i64,.i .i64,.s,.l 53,.l 9,.l 131] vNum):=by
  refine fok (env:=envL []) (N:=5) tabT envL_nil mixed Tryz.func103 rfl Tryz.call103 Tryz.ntmps103 ?_
  rintro args ⟨n,rfl⟩ hwf
  refine ⟨by simp,?_⟩
  clear hwf
  rw [Tryz.results103]
  repeat' first
    | (refine And.intro ?_ ?_)
    | (intro h;simp only [reduceCtorEq] at h;done)
    | (intro h;rw [h])
    | (intro h)
  all_goals first
    | (show lowEdges _=true;kernel_rfl)|(show logOk _ _=true;kernel_rfl)|exact True.intro|exact Or.inr rfl|exact Or.inl rfl
    | exact rfl
    | skip
theorem xk100:FOk Tryz.prog T 100 (spMk1 [.i .i64,.i .i64,.i .i64,.s,.l 53,.l 9,.l 131] vErr):=by
  refine fok (env:=envL []) (N:=5) tabT envL_nil mixed Tryz.func100 rfl Tryz.call100 Tryz.ntmps100 ?_
  rintro args ⟨n,rfl⟩ hwf
  refine ⟨by simp,?_⟩
  clear hwf
  rw [Tryz.results100]
  repeat' first
    | (refine And.intro ?_ ?_)
    | (intro h;simp only [reduceCtorEq] at h;done)
    | (intro h;rw [h])
    | (intro h)
  all_goals first
    | (show lowEdges _=true;kernel_rfl)|(show logOk _ _=true;kernel_rfl)|exact True.intro|exact Or.inr rfl|exact Or.inl rfl
    | exact rfl
    | skip
theorem xk96:FOk Tryz.prog T 96 (spMkT [.i .i64,.i .i64,.i .i64,.s,.l 53,.l 9,.l 131] vTxt):=by
  refine fok (env:=envL []) (N:=5) tabT envL_nil mixed Tryz.func96 rfl Tryz.call96 Tryz.ntmps96 ?_
  rintro args ⟨t,rfl⟩ hwf
  refine ⟨by simp,?_⟩
  clear hwf
  rw [Tryz.results96]
  repeat' first
    | (refine And.intro ?_ ?_)
    | (intro h;simp only [reduceCtorEq] at h;done)
    | (intro h;rw [h])
    | (intro h)
  all_goals first
    | (show lowEdges _=true;kernel_rfl)|(show logOk _ _=true;kernel_rfl)|exact True.intro|exact Or.inr rfl|exact Or.inl rfl
    | exact rfl
    | skip
theorem xk144:FOk Tryz.prog T 144 (spMk2 [.i .i64,.i .i64,.i .i64,.s,.l 53,.l 9,.l 131] vStr):=by
  refine fok (env:=envL []) (N:=8) tabT envL_nil mixed Tryz.func144 rfl Tryz.call144 Tryz.ntmps144 ?_
  rintro args ⟨n,m,rfl⟩ hwf
  refine ⟨by simp,?_⟩
  clear hwf
  rw [Tryz.results144]
  repeat' first
    | (refine And.intro ?_ ?_)
    | (intro h;simp only [reduceCtorEq] at h;done)
    | (intro h;rw [h])
    | (intro h)
  all_goals first
    | (show lowEdges _=true;kernel_rfl)|(show logOk _ _=true;kernel_rfl)|exact True.intro|exact Or.inr rfl|exact Or.inl rfl
    | exact rfl
    | skip
theorem xk102:FOk Tryz.prog T 102 spIntP:=by
  refine fok (env:=envL [(119,(spPrs (-999999999999) 999999999999))]) (N:=52) tabT (envL_cons ok119 envL_nil) mixed Tryz.func102 rfl Tryz.call102 Tryz.ntmps102 ?_
  rintro args ⟨s,k,hp,rfl⟩ hwf
  obtain ⟨hz,h0,h1⟩:=id hp
  obtain ⟨k,rfl⟩:=Int.eq_ofNat_of_zero_le h0
  have hk:k≤s.size:=by omega
  refine ⟨by simp,?_⟩
  clear hwf
  rw [Tryz.results102]
  repeat' first
    | (refine And.intro ?_ ?_)
    | (intro h;simp only [reduceCtorEq] at h;done)
    | (intro h;rw [h])
    | (intro h)
  all_goals first
    | (show lowEdges _=true;kernel_rfl)|(show logOk _ _=true;kernel_rfl)|exact True.intro|exact Or.inr rfl|exact Or.inl rfl
    | with_reducible exact Int.natCast_nonneg _
    | with_reducible exact of_decide_eq_true (by with_reducible assumption)
    | skip
  all_goals (
    refine awp_loop (Q:=_) [0,1,6] [] (fun m st=>∃ j:Nat,st=([sArg s,iArg (k:Int),iArg (j:Int)],[])∧k≤j∧j≤s.size∧runB digB s j=numE s k∧m=s.size - j) ?_ ?_
    · first
        | (have hlt:=ltN (i:=k) (n:=s.size) (by with_reducible assumption)
           have h45:=(by assumption:(bAt s k == 45)=true)
           refine ⟨rfl,s.size - (k+1),k+1,?_,by omega,by omega,by unfold numE;rw [sgn_y hlt h45],rfl⟩
           exact congrArg (fun z:Int=>(([sArg s,iArg (k:Int),iArg z],[]):Snap)) (posK hp 1 (by decide) (by decide)))
        | exact ⟨rfl,s.size - k,k,rfl,Nat.le_refl _,hk,by unfold numE;rw [sgn_n2 (by assumption)],rfl⟩
        | exact ⟨rfl,s.size - k,k,rfl,Nat.le_refl _,hk,by unfold numE;rw [sgn_n1 (nltN (by with_reducible assumption))],rfl⟩
    rintro m st ⟨j,rfl,j0,j1,jr,rfl⟩
    repeat' first
      | (refine And.intro ?_ ?_)
      | (intro h;simp only [reduceCtorEq] at h;done)
      | (intro h;rw [h])
      | (intro h)
    all_goals first
      | (show lowEdges _=true;kernel_rfl)|(show logOk _ _=true;kernel_rfl)|exact True.intro|exact Or.inr rfl|exact Or.inl rfl
      | with_reducible exact Int.natCast_nonneg _
      | with_reducible exact of_decide_eq_true (by with_reducible assumption)
      | (show Alive _ _;exact rfl)
      | (have hj:j < s.size:=ltN (by with_reducible assumption)
         refine ⟨s.size - (j+1),by omega,j+1,?_,by omega,by omega,(runB_hit hj (dig_y (by assumption) (by assumption))).symm.trans jr,rfl⟩
         exact congrArg (fun z:Int=>(([sArg s,iArg (k:Int),iArg z],[]):Snap)) (wrapN hj (by simp only [maxLen];omega)))
      | (have je:j=numE s k:=by
           rw [← jr]
           first
             | exact (runB_end (nltN (by with_reducible assumption))).symm
             | exact (runB_miss (ltN (by with_reducible assumption)) (dig_n1 (by assumption))).symm
             | exact (runB_miss (ltN (by with_reducible assumption)) (dig_n2 (by assumption))).symm
         subst je
         first
           | (show (k:Int)≤(numE s k:Int);omega)
           | (show (numE s k:Int)≤(s.size:Int);omega)
           | (refine ⟨_,?_,rfl⟩;show (s.extract k (numE s k)).size≤_;rw [ByteArray.size_extract];omega)
           | exact resII (int_no (s:=s) (k:=(k:Int)) (by assumption)) rfl rfl
           | exact resII (int_yes (s:=s) (k:=(k:Int)) (by assumption)) rfl rfl)
      | skip)
theorem xk95:FOk Tryz.prog T 95 spQuoP:=by
  refine fok (env:=envL [(94,spStarts)]) (N:=36) tabT (envL_cons xk94 envL_nil) mixed Tryz.func95 rfl Tryz.call95 Tryz.ntmps95 ?_
  rintro args ⟨s,k,hp,rfl⟩ hwf
  obtain ⟨hz,h0,h1⟩:=id hp
  obtain ⟨k,rfl⟩:=Int.eq_ofNat_of_zero_le h0
  have hk:k≤s.size:=by omega
  refine ⟨by simp,?_⟩
  clear hwf
  rw [Tryz.results95]
  repeat' first
    | (refine And.intro ?_ ?_)
    | (intro h;simp only [reduceCtorEq] at h;done)
    | (intro h;rw [h])
    | (intro h)
  all_goals first
    | (show lowEdges _=true;kernel_rfl)|(show logOk _ _=true;kernel_rfl)|exact True.intro|exact Or.inr rfl|exact Or.inl rfl
    | exact ⟨_,_,_,hp,by decide,rfl⟩
    | exact resTI (quo_1 (by assumption)) rfl rfl
    | skip
  have hq:=by assumption
  have hq:(!stB s (k:Int) QUO)=false:=hq
  have hb:=stB_le (of_notF hq)
  have hq1:(QUO.size:Int)=1:=rfl
  refine awp_loop (Q:=_) [0,1,6] [] (fun m st=>∃ j:Nat,st=([sArg s,iArg (k:Int),iArg (j:Int)],[])∧k+1≤j∧j≤s.size∧runB (fun b=>b != 34) s j=quoE s (k:Int)∧m=s.size - j) ?_ ?_
  · refine ⟨rfl,s.size - (k+1),k+1,?_,by omega,by omega,rfl,rfl⟩
    exact congrArg (fun z:Int=>(([sArg s,iArg (k:Int),iArg z],[]):Snap)) (posK hp 1 (by decide) (by decide))
  rintro m st ⟨j,rfl,j0,j1,jr,rfl⟩
  repeat' first
    | (refine And.intro ?_ ?_)
    | (intro h;simp only [reduceCtorEq] at h;done)
    | (intro h;rw [h])
    | (intro h)
  all_goals first
    | (show lowEdges _=true;kernel_rfl)|(show logOk _ _=true;kernel_rfl)|exact True.intro|exact Or.inr rfl|exact Or.inl rfl
    | with_reducible exact Int.natCast_nonneg _
    | with_reducible exact of_decide_eq_true (by with_reducible assumption)
    | (show Alive _ _;exact rfl)
    | (have hj:j < s.size:=ltN (by with_reducible assumption)
       refine ⟨s.size - (j+1),by omega,j+1,?_,by omega,by omega,(runB_hit (P:=fun b=>b != 34) hj (by assumption:(bAt s j != 34)=true)).symm.trans jr,rfl⟩
       exact congrArg (fun z:Int=>(([sArg s,iArg (k:Int),iArg z],[]):Snap)) (wrapN hj (by simp only [maxLen];omega)))
    | (have je:j=quoE s (k:Int):=by
         rw [← jr]
         first
           | exact (runB_end (nltN (by with_reducible assumption))).symm
           | exact (runB_miss (P:=fun b=>b != 34) (ltN (by with_reducible assumption)) (by assumption:(bAt s j != 34)=false)).symm
       subst je
       have hw:=posK hp 1 (by decide) (by decide)
       have hw2:IntKind.i64.wrap ((quoE s (k:Int):Int)+1)=(quoE s (k:Int):Int)+1:=wr64 (by omega) (by omega)
       first
         | (rw [hw];omega)
         | (show (quoE s (k:Int):Int)≤(s.size:Int);omega)
         | exact resTI (quo_2 (k:=(k:Int)) hq (by assumption)) rfl rfl
         | (refine resTI (quo_3 (k:=(k:Int)) hq (by assumption)) ?_ hw2;rw [hw];rfl))
    | skip
theorem xk98:FOk Tryz.prog T 98 (spVP [.i .i64,.i .i64,.i .i64,.s,.l 53,.l 9,.l 131] (fun _ _=>True) strP):=by
  refine fok (env:=envL [(102,spIntP),(94,spStarts),(144,(spMk2 [.i .i64,.i .i64,.i .i64,.s,.l 53,.l 9,.l 131] vStr))]) (N:=46) tabT (envL_cons xk102 (envL_cons xk94 (envL_cons xk144 envL_nil))) mixed Tryz.func98 rfl Tryz.call98 Tryz.ntmps98 ?_
  rintro args ⟨s,k,hp,_,rfl⟩ hwf
  refine ⟨by simp,?_⟩
  clear hwf
  rw [Tryz.results98]
  repeat' first
    | (refine And.intro ?_ ?_)
    | (intro h;simp only [reduceCtorEq] at h;done)
    | (intro h;rw [h])
    | (intro h)
  all_goals first
    | (show lowEdges _=true;kernel_rfl)|(show logOk _ _=true;kernel_rfl)|exact True.intro|exact Or.inr rfl|exact Or.inl rfl
    | exact ⟨_,_,hp,rfl⟩
    | exact ⟨_,_,rfl⟩
    | exact resV (strP_1 (by assumption)) rfl rfl
    | exact resV (strP_2 (by assumption) (by assumption)) rfl rfl
    | exact ⟨_,_,_,int_in hp (by assumption),by decide,rfl⟩
    | (have h0:=(by assumption:decide ((intP s k).2 < 0)=false)
       have h1:=(by assumption:(!stB s (intP s k).2 COMMA)=false)
       have hc:=posC (int_in hp h0) (w:=COMMA) (by decide) (of_notF h1)
       have hw:IntKind.i64.wrap ((intP s k).2+2)=(intP s k).2+2:=hc.1
       have hp2:PosIn s (IntKind.i64.wrap ((intP s k).2+2)):=by rw [hw];exact hc.2
       first
         | exact ⟨_,_,hp2,rfl⟩
         | exact ⟨_,_,_,int_in hp2 (by assumption),by decide,rfl⟩
         | exact resV (strP_3 hw h0 h1 (by assumption)) rfl rfl
         | exact resV (strP_4 hw h0 h1 (by assumption) (by assumption)) rfl rfl
         | (have h3:=(by assumption:decide ((intP s (IntKind.i64.wrap ((intP s k).2+2))).2 < 0)=false)
            have h4:=(by assumption:(!stB s (intP s (IntKind.i64.wrap ((intP s k).2+2))).2 RPA)=false)
            exact resV (strP_5 hw h0 h1 h3 h4) rfl (posC (int_in hp2 h3) (w:=RPA) (by decide) (of_notF h4)).1))
    | skip
theorem xk101:FOk Tryz.prog T 101 spErrC:=by
  refine fok (env:=envL [(146,spErrs),(145,(spSTI idxT)),(47,spMax)]) (N:=9) tabT (envL_cons ok146 (envL_cons xk145 (envL_cons xk47 envL_nil))) mixed Tryz.func101 rfl Tryz.call101 Tryz.ntmps101 ?_
  rintro args ⟨t,rfl⟩ hwf
  refine ⟨by simp,?_⟩
  clear hwf
  rw [Tryz.results101]
  repeat' first
    | (refine And.intro ?_ ?_)
    | (intro h;simp only [reduceCtorEq] at h;done)
    | (intro h;rw [h])
    | (intro h)
  all_goals first
    | (show lowEdges _=true;kernel_rfl)|(show logOk _ _=true;kernel_rfl)|exact True.intro|exact Or.inr rfl|exact Or.inl rfl
    | exact rfl
    | exact ⟨_,_,rfl⟩
    | exact resI (err_0 (by assumption))
    | exact resI (err_1 (by assumption))
    | skip
theorem WfD.of_rows {e:TypeId} {te:Ty} {rows:List (List D)} (he:T e=some te) (hl:rows.length≤maxLen) (h:∀ r ∈ rows,WfRow T te.cts r):WfD T (.l e) (.l rows) :=
  .sl e te rows he hl (fun k row hk=>(h row (List.mem_of_getElem? hk)).1) (fun k j ct d row hk hj hd=>(h row (List.mem_of_getElem? hk)).2 j ct d hj hd)
theorem WfRow.cons {ct:CT} {cts:List CT} {d:D} {r:List D} (h:WfD T ct d) (hr:WfRow T cts r):WfRow T (ct :: cts) (d :: r):=by
  refine ⟨by simp [hr.1],fun j ct' d' h1 h2=>?_⟩
  cases j with
  | zero=>cases h1;cases h2;exact h
  | succ j=>exact hr.2 j ct' d' h1 h2
theorem WfRow.nil:WfRow T [] []:=⟨rfl,fun j ct d h _=>by simp at h⟩
abbrev cV:List CT:=[.i .i64,.i .i64,.i .i64,.s,.l 53,.l 9,.l 131]
abbrev cR:List CT:=[.l 3,.l 167]
theorem wf7 {k n st:Int} {tx:ByteArray} {l4 l5 l6:List (List D)} (hk:inK .i64 k) (hn:inK .i64 n) (hs:inK .i64 st) (ht:tx.size≤maxLen) (h4:WfD T (.l 53) (.l l4)) (h5:WfD T (.l 9) (.l l5)) (h6:WfD T (.l 131) (.l l6)):WfRow T cV (val7 k n st tx l4 l5 l6) :=
  .cons (.int _ _ hk) (.cons (.int _ _ hn) (.cons (.int _ _ hs) (.cons (.str _ ht) (.cons h4 (.cons h5 (.cons h6 .nil))))))
theorem k0 (c:Int) (h0:-100≤c) (h1:c≤100):inK .i64 c:=by
  have e1:IntKind.i64.min = -9223372036854775808:=by decide
  have e2:IntKind.i64.max=9223372036854775807:=by decide
  rw [inK,e1,e2];omega
theorem wfNil:WfRow T cV vNil:=wf7 (k0 0 (by decide) (by decide)) (k0 0 (by decide) (by decide)) (k0 0 (by decide) (by decide)) (by decide) (.nil _) (.nil _) (.nil _)
theorem wfNum {n:Int} (h:inK .i64 n):WfRow T cV (vNum n):=wf7 (k0 1 (by decide) (by decide)) h (k0 0 (by decide) (by decide)) (by decide) (.nil _) (.nil _) (.nil _)
theorem wfErr {n:Int} (h:inK .i64 n):WfRow T cV (vErr n):=wf7 (k0 6 (by decide) (by decide)) h (k0 0 (by decide) (by decide)) (by decide) (.nil _) (.nil _) (.nil _)
theorem wfTxt {t:ByteArray} (h:t.size≤maxLen):WfRow T cV (vTxt t):=wf7 (k0 2 (by decide) (by decide)) (k0 0 (by decide) (by decide)) (k0 0 (by decide) (by decide)) h (.nil _) (.nil _) (.nil _)
theorem wfStr {n st:Int} (h:inK .i64 n) (h2:inK .i64 st):WfRow T cV (vStr n st):=wf7 (k0 4 (by decide) (by decide)) h h2 (by decide) (.nil _) (.nil _) (.nil _)
theorem wfLst {l:List (List D)} (hl:l.length≤maxLen) (h:∀ r ∈ l,WfRow T cV r):WfRow T cV (vLst l):=wf7 (k0 3 (by decide) (by decide)) (k0 0 (by decide) (by decide)) (k0 0 (by decide) (by decide)) (by decide) (WfD.of_rows (show T 53=some _ from rfl) hl h) (.nil _) (.nil _)
theorem wf_lst {v:List D} (h:WfRow T cV v) {y:List D} (hy:y ∈ lst v):WfRow T cV y:=by
  obtain ⟨i,hi,rfl⟩:=mem_at [] hy
  exact (h.rows (j:=4) rfl).row rfl hi
theorem wf_int {v:List D} (h:WfRow T cV v):inK .i64 (iAt v 1):=by
  obtain ⟨d0,r0,rfl,w0,h⟩:=h.cons'
  obtain ⟨d1,r1,rfl,w1,h⟩:=h.cons'
  obtain ⟨n1,rfl,h1⟩:=w1.int'
  exact h1
theorem wf_rowOf {v:List D} (h:WfRow T cV v):WfRow T cR (rowOfV v):=by
  refine .cons (WfD.of_rows (show T 3=some _ from rfl) ?_ ?_) (.cons (.nil _) .nil)
  · rw [List.length_map];exact (h.rows (j:=4) rfl).len
  · intro r hr
    obtain ⟨y,hy,rfl⟩:=List.mem_map.1 hr
    exact .cons (.int _ _ (wf_int (wf_lst h hy))) .nil
theorem wfTbl {t:ByteArray} {l:List (List D)} (ht:t.size≤1048576) (hl:l.length≤maxLen) (h:∀ r ∈ l,WfRow T cV r):WfRow T cV (vTbl (strRows (wordsB t)) (l.map rowOfV)):=by
  refine wf7 (k0 5 (by decide) (by decide)) (k0 0 (by decide) (by decide)) (k0 0 (by decide) (by decide)) (by decide) (.nil _) (WfD.of_rows (show T 9=some _ from rfl) ?_ ?_) (WfD.of_rows (show T 131=some _ from rfl) ?_ ?_)
  · rw [strRows_len];have:=wordsB_length t;simp only [maxLen];omega
  · intro r hr
    obtain ⟨x,hx,rfl⟩:=List.mem_map.1 hr
    exact .cons (.str _ (Nat.le_trans (wordsB_size hx) (by simp only [maxLen];omega))) .nil
  · rw [List.length_map];exact hl
  · intro r hr
    obtain ⟨v,hv,rfl⟩:=List.mem_map.1 hr
    exact wf_rowOf (h v hv)
theorem errC_in (t:ByteArray):inK .i64 (errC t):=by
  have e1:IntKind.i64.min = -9223372036854775808:=by decide
  have e2:IntKind.i64.max=9223372036854775807:=by decide
  have hl:(strRows errs).length=9:=rfl
  unfold errC
  split
  · exact k0 0 (by decide) (by decide)
  · rcases firstB_cases (strRows errs).length (isAt (strRows errs) t) with ⟨h,_⟩|⟨i,hi,h,_⟩
    · unfold idxT
      rw [h,inK,e1,e2];decide
    · unfold idxT
      rw [h,inK,e1,e2]
      omega
theorem wf_items {par:Int→List D × Int} {s:ByteArray} {k0:Int} (hp:∀ k,k0≤k→k≤s.size→Pos s k (wRow (par k).1) (par k).2) (hw:∀ k,k0≤k→k≤s.size→WfRow T cV (par k).1) :
    ∀ (m:Nat) (k:Int) (out:List (List D)),k0≤k→k≤s.size→out.length+m=64→(∀ r ∈ out,WfRow T cV r)→(itemsF par s m k out).1.length≤64∧∀ r ∈ (itemsF par s m k out).1,WfRow T cV r
  | 0,_,_,_,_,_,_=>⟨Nat.zero_le _,fun r hr=>absurd hr (List.not_mem_nil)⟩
  | m + 1, k,out,h0,h,hm,ho=>by
    have a:=hp k h0 h
    have w:=hw k h0 h
    have ho' : ∀ r ∈ out++[(par k).1],WfRow T cV r:=by
      intro r hr
      rcases List.mem_append.1 hr with h|h
      · exact ho r h
      · rw [List.mem_singleton.1 h];exact w
    unfold itemsF
    split
    · exact ⟨Nat.zero_le _,fun r hr=>absurd hr (List.not_mem_nil)⟩
    · rename_i h1
      rcases a with ⟨a,_⟩|⟨a1,a2,a3⟩
      · omega
      split
      · exact ⟨by show (out++[(par k).1]).length≤64;rw [List.length_append,List.length_singleton];omega,ho'⟩
      · split
        · exact ⟨Nat.zero_le _,fun r hr=>absurd hr (List.not_mem_nil)⟩
        · rename_i h2 h3
          have b:=stB_le (by simpa using h3)
          have e:(COMMA.size:Int)=2:=rfl
          exact wf_items hp hw m _ _ (by omega) (by omega) (by rw [List.length_append,List.length_singleton];omega) ho'
theorem wf_itm {par:Int→List D × Int} {s:ByteArray} {k0:Int} (hp:∀ k,k0≤k→k≤s.size→Pos s k (wRow (par k).1) (par k).2) (hw:∀ k,k0≤k→k≤s.size→WfRow T cV (par k).1) (h:k0≤s.size):(itmP par s k0).1.length≤64∧∀ r ∈ (itmP par s k0).1,WfRow T cV r:=by
  unfold itmP
  split
  · exact ⟨Nat.zero_le _,fun r hr=>absurd hr (List.not_mem_nil)⟩
  · exact wf_items hp hw 64 k0 [] (Int.le_refl _) h rfl (fun r hr=>absurd hr (List.not_mem_nil))
theorem wf_par {s:ByteArray} (hs:s.size≤1048576):∀ (n:Nat) (k:Int),0≤k→k≤s.size→WfRow T cV (parF s n k).1
  | 0,_,_,_=>wfNil
  | n+1,k,h0,h=>by
    have itm:∀ k0,0≤k0→k0≤(s.size:Int)→_:=fun k0 h0 h=>wf_itm (par:=parF s n) (s:=s) (k0:=k0) (fun k hk hs=>parF_pos s n k (by omega) hs) (fun k hk hk2=>wf_par hs n k (by omega) hk2) h
    show WfRow T cV (parP (itmP (parF s n) s) s k).1
    unfold parP
    split
    · refine wfTxt ?_
      rcases quoP_pos h0 h with ⟨h1,h2⟩|⟨h1,h2,h3⟩
      · rw [h2];decide
      · simp only [maxLen];omega
    split
    · rename_i h1
      have b:=stB_le h1
      have e:(LBR.size:Int)=1:=rfl
      have q:=itm (k+1) (by omega) (by omega)
      exact wfLst (Nat.le_trans q.1 (by decide)) q.2
    split
    · unfold strP
      repeat' split
      all_goals first
        | exact wfNil
        | exact wfStr (intP_in _ _) (intP_in _ _)
    split
    · rename_i h1
      have b:=stB_le h1
      have e:(TBO.size:Int)=6:=rfl
      unfold tabP
      rcases quoP_pos (s:=s) (k:=k+6) (by omega) (by omega) with ⟨q1,q2⟩|⟨q1,q2,q3⟩
      · rw [if_pos (by omega)];exact wfNil
      rw [if_neg (by omega)]
      split
      · exact wfNil
      rename_i c1
      have c2:=stB_le (by simpa using c1)
      have e3:(CLB.size:Int)=3:=rfl
      have q:=itm ((quoP s (k+6)).2+3) (by omega) (by omega)
      split
      · exact wfNil
      split
      · exact wfNil
      exact wfTbl (by omega) (Nat.le_trans q.1 (by decide)) q.2
    split
    · exact wfErr (errC_in _)
    · exact wfNum (intP_in _ _)
end Go.Proofs.YtkpnfbdoaljkpaaGreatDoor.Ab
