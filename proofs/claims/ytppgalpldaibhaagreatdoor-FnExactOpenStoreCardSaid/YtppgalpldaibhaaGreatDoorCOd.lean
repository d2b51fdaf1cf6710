/- The program's ParseOp, exactly: printed by a program of this claim. -/
import Derived.Test.YtppgalpldaibhaaGreatDoorCZz
import Derived.Test.YtppgalpldaibhaaGreatDoorCLx
namespace Go.Proofs.YtppgalpldaibhaaGreatDoor.Ab
open Go.RowKit
set_option linter.unusedVariables false
set_option linter.unusedSimpArgs false
set_option maxRecDepth 100000
set_option maxHeartbeats 2000000
theorem numi_k (r:List (List D)):inK .i64 (numI' r).1:=prs_k9 _
theorem seenI_wf (rows:List (List D)) (i:Nat):(seenI rows i).length=i∧∀ r ∈ seenI rows i,WfRow T [.i .i64] r:=by
  unfold seenI
  refine ⟨by simp,fun r hr=>?_⟩
  obtain ⟨j,_,rfl⟩:=List.mem_map.1 hr
  exact .cons (.int _ _ (numi_k _)) .nil
theorem opI_wf {rows:List (List D)} (hs:SmW rows) {rd:List (List D)} (hr:rd.length≤1048576) (hrd:∀ r ∈ rd,RdOk r):WfRow T cO (opI rows rd)∧SmO (opI rows rd) :=
  wf_op (numi_k _) (numi_k _) (numi_k _) (by rw [(seenI_wf rows 3).1];exact Nat.le_refl _) (seenI_wf rows 3).2 (numi_k _) (numi_k _) (numi_k _) (numi_k _) (numi_k _) (hdT_size (hs.dr _)) (hdT_size (hs.dr _)) (numi_k _) (hdT_size (hs.dr _)) (hdT_size (hs.dr _)) (numi_k _) (numi_k _) hr hrd
theorem rowI_ok {r:List (List D)} (hs:SmW r) {pv:ByteArray→List D × Bool} (hw:∀ t,t.size≤1048576→WfRow T cV (pv t).1∧wRow (pv t).1≤2097152):RdOk (rowI pv r) :=
  rd_ok (numi_k _) (numi_k _) (numi_k _) (hdT_size (hs.dr _)) (hw _ (hdT_size (hs.dr _))).1 (hw _ (hdT_size (hs.dr _))).2
set_option maxHeartbeats 8000000 in
theorem xo33 (pv:ByteArray→List D × Bool) (hw:∀ t,t.size≤1048576→WfRow T cV (pv t).1∧wRow (pv t).1≤2097152) (hpv:FOk Tryz.prog T 21 (spPV2 [.i .i64,.i .i64,.i .i64,.s,.l 33,.l 9,.l 91] pv)):FOk Tryz.prog T 33 (spPV2 [.i .i64,.i .i64,.i .i64,.l 3,.i .i64,.i .i64,.i .i64,.i .i64,.i .i64,.s,.s,.i .i64,.s,.s,.i .i64,.i .i64,.l 118] (poI pv)):=by
  refine fok (env:=envL [(102,(spSplit false)),(103,spNumI),(104,spTxtI),(21,(spPV2 [.i .i64,.i .i64,.i .i64,.s,.l 33,.l 9,.l 91] pv)),(47,(spOpT T [.i .i64,.i .i64,.i .i64,.l 3,.i .i64,.i .i64,.i .i64,.i .i64,.i .i64,.s,.s,.i .i64,.s,.s,.i .i64,.i .i64,.l 118]))]) (N:=145) tabT (envL_cons ok102 (envL_cons ok103 (envL_cons ok104 (envL_cons hpv (envL_cons ok47 envL_nil))))) mixed Tryz.func33 rfl Tryz.call33 Tryz.ntmps33 ?_
  rintro args ⟨s,hs,rfl⟩ hwf'
  clear hwf'
  have sm:=smW s hs
  have hlen:=rows_le s hs
  refine ⟨by simp,?_⟩
  rw [Tryz.results33]
  repeat' first
    | (refine And.intro ?_ ?_)
    | (intro h;simp only [reduceCtorEq] at h;done)
    | (intro h;rw [h])
    | (intro h)
  all_goals first
    | (show lowEdges _=true;kernel_rfl)|(show logOk _ _=true;kernel_rfl)|exact True.intro|exact Or.inr rfl|exact Or.inl rfl
    | exact rfl
    | exact ⟨_,hs,rfl⟩
    | exact ⟨_,_,sm,rfl⟩
    | exact ⟨_,_,sm.dr 1,rfl⟩
    | exact ⟨_,_,sm.dr 2,rfl⟩
    | skip
  refine awp_loop (Q:=_) [0,2,4,5,6] [2,13,5] (fun m st=>∃ i:Nat,st=([sArg s,.ptr 2 1 0,.ptr 13 1 0,.ptr 5 1 0,iArg (i:Int)],[(1,[.val false [.i .i64 0],.val false [.i .i64 0],.val false [.i .i64 0],.val false [.sl true 3 []],.val false [.i .i64 0],.val false [.i .i64 0],.val false [.i .i64 0],.val false [.i .i64 0],.val false [.i .i64 0],.val false [.s ByteArray.empty],.val false [.s ByteArray.empty],.val false [.i .i64 0],.val false [.s ByteArray.empty],.val false [.s ByteArray.empty],.val false [.i .i64 0],.val false [.i .i64 0],.val false [.sl true 118 []]]),(1,[.val false [.sl false 9 (dr (3+i) (strRows (wordsB s)))],.val false [.b (okN (strRows (wordsB s)) (3+i))]]),(1,[.val false [.i .i64 (numi (strRows (wordsB s)) 0)],.val false [.i .i64 (numi (strRows (wordsB s)) 1)],.val false [.i .i64 (numi (strRows (wordsB s)) 2)],.val false [.sl true 3 (seenI (strRows (wordsB s)) i)],.val false [.i .i64 0],.val false [.i .i64 0],.val false [.i .i64 0],.val false [.i .i64 0],.val false [.i .i64 0],.val false [.s ByteArray.empty],.val false [.s ByteArray.empty],.val false [.i .i64 0],.val false [.s ByteArray.empty],.val false [.s ByteArray.empty],.val false [.i .i64 0],.val false [.i .i64 0],.val false [.sl true 118 []]])])∧i≤3∧m=3 - i) ?_ ?_
  · exact ⟨rfl,3,0,rfl,by decide,rfl⟩
  rintro m st ⟨i,rfl,hi,rfl⟩
  repeat' first
    | (refine And.intro ?_ ?_)
    | (intro h;simp only [reduceCtorEq] at h;done)
    | (intro h;rw [h])
    | (intro h)
  all_goals first
    | (show lowEdges _=true;kernel_rfl)|(show logOk _ _=true;kernel_rfl)|exact True.intro|exact Or.inr rfl|exact Or.inl rfl
    | exact rfl
    | (have h3:i < 3:=by have:=of_decide_eq_true (show decide ((i:Int) < 3)=true by assumption);omega
       first
         | exact ⟨_,_,sm.dr (3+i),rfl⟩
         | exact numi_k _
         | (show (seenI (strRows (wordsB s)) i).length+1≤maxLen;rw [(seenI_wf (strRows (wordsB s)) i).1];simp only [maxLen];omega)
         | (show ((seenI (strRows (wordsB s)) i).length+1) * 8≤_;rw [(seenI_wf (strRows (wordsB s)) i).1];omega)
         | (show Alive _ _;exact rfl)
         | (refine ⟨3 - (i+1),by omega,i+1,?_,by omega,rfl⟩
            exact snapB (f:=fun r q b z=>(([sArg s,.ptr 2 1 0,.ptr 13 1 0,.ptr 5 1 0,iArg z],[(1,[.val false [.i .i64 0],.val false [.i .i64 0],.val false [.i .i64 0],.val false [.sl true 3 []],.val false [.i .i64 0],.val false [.i .i64 0],.val false [.i .i64 0],.val false [.i .i64 0],.val false [.i .i64 0],.val false [.s ByteArray.empty],.val false [.s ByteArray.empty],.val false [.i .i64 0],.val false [.s ByteArray.empty],.val false [.s ByteArray.empty],.val false [.i .i64 0],.val false [.i .i64 0],.val false [.sl true 118 []]]),(1,[.val false [.sl false 9 q],.val false [.b b]]),(1,[.val false [.i .i64 (numi (strRows (wordsB s)) 0)],.val false [.i .i64 (numi (strRows (wordsB s)) 1)],.val false [.i .i64 (numi (strRows (wordsB s)) 2)],.val false [.sl true 3 r],.val false [.i .i64 0],.val false [.i .i64 0],.val false [.i .i64 0],.val false [.i .i64 0],.val false [.i .i64 0],.val false [.s ByteArray.empty],.val false [.s ByteArray.empty],.val false [.i .i64 0],.val false [.s ByteArray.empty],.val false [.s ByteArray.empty],.val false [.i .i64 0],.val false [.i .i64 0],.val false [.sl true 118 []]])]):Snap)) (seenI_next (strRows (wordsB s)) i) rfl (okN_num (r:=(strRows (wordsB s))) (j:=3+i) (by omega)).symm (wrapN h3 (by decide))))
    | (refine ⟨_,_,?_,rfl⟩;exact sm.dr _)
    | exact ⟨_,_,(sm.dr (3+i)).dr 0,rfl⟩
    | exact ⟨_,_,(sm.dr (3+i)).dr 1,rfl⟩
    | exact ⟨_,_,(sm.dr (3+i)).dr 2,rfl⟩
    | exact ⟨_,_,(sm.dr (3+i)).dr 3,rfl⟩
    | exact ⟨_,_,(sm.dr (3+i)).dr 4,rfl⟩
    | exact ⟨_,_,(sm.dr (3+i)).dr 5,rfl⟩
    | exact ⟨_,_,(sm.dr (3+i)).dr 6,rfl⟩
    | exact ⟨_,_,(sm.dr (3+i)).dr 7,rfl⟩
    | exact ⟨_,_,(sm.dr (3+i)).dr 8,rfl⟩
    | exact ⟨_,_,(sm.dr (3+i)).dr 9,rfl⟩
    | exact ⟨_,_,(sm.dr (3+i)).dr 10,rfl⟩
    | exact ⟨_,_,(sm.dr (3+i)).dr 11,rfl⟩
    | exact ⟨_,_,(sm.dr (3+i)).dr 12,rfl⟩
    | skip
  obtain rfl:i=3:=by have:=of_decide_eq_false (show decide ((i:Int) < 3)=false by assumption);omega
  refine awp_loop (Q:=_) [0,2,4,5,7,8] [2,13,5] (fun m st=>∃ (i:Nat) (o r:List (List D)) (b:Bool),st=([sArg s,.ptr 2 1 0,.ptr 13 1 0,.ptr 5 1 0,iArg (numi (strRows (wordsB s)) 18),iArg (i:Int)],[(1,[.val false [.i .i64 0],.val false [.i .i64 0],.val false [.i .i64 0],.val false [.sl true 3 []],.val false [.i .i64 0],.val false [.i .i64 0],.val false [.i .i64 0],.val false [.i .i64 0],.val false [.i .i64 0],.val false [.s ByteArray.empty],.val false [.s ByteArray.empty],.val false [.i .i64 0],.val false [.s ByteArray.empty],.val false [.s ByteArray.empty],.val false [.i .i64 0],.val false [.i .i64 0],.val false [.sl true 118 []]]),(1,[.val false [.sl false 9 r],.val false [.b b]]),(1,[.val false [.i .i64 (numi (strRows (wordsB s)) 0)],.val false [.i .i64 (numi (strRows (wordsB s)) 1)],.val false [.i .i64 (numi (strRows (wordsB s)) 2)],.val false [.sl true 3 (seenI (strRows (wordsB s)) 3)],.val false [.i .i64 (numi (strRows (wordsB s)) 6)],.val false [.i .i64 (numi (strRows (wordsB s)) 7)],.val false [.i .i64 (numi (strRows (wordsB s)) 8)],.val false [.i .i64 (numi (strRows (wordsB s)) 9)],.val false [.i .i64 (numi (strRows (wordsB s)) 10)],.val false [.s (txti (strRows (wordsB s)) 12)],.val false [.s (txti (strRows (wordsB s)) 13)],.val false [.i .i64 (numi (strRows (wordsB s)) 11)],.val false [.s (txti (strRows (wordsB s)) 14)],.val false [.s (txti (strRows (wordsB s)) 15)],.val false [.i .i64 (numi (strRows (wordsB s)) 16)],.val false [.i .i64 (numi (strRows (wordsB s)) 17)],.val false [.sl true 118 o]])])∧o.length=i∧5 * i≤(strRows (wordsB s)).length+5∧SmW r∧r.length≤(strRows (wordsB s)).length∧(b=true→r.length+5 * i≤(strRows (wordsB s)).length)∧(∀ r ∈ o,RdOk r)∧rdsI pv (numi (strRows (wordsB s)) 18) m i r b o=rdsI pv (numi (strRows (wordsB s)) 18) ((strRows (wordsB s)).length+2) 0 (dr 19 (strRows (wordsB s))) (okN (strRows (wordsB s)) 19) []∧1≤m∧(b=true→r.length+2≤m)) ?_ ?_
  · refine ⟨rfl,(strRows (wordsB s)).length+2,0,[],dr 19 (strRows (wordsB s)),okN (strRows (wordsB s)) 19,rfl,rfl,Nat.zero_le _,sm.dr 19,by rw [dr_len];omega,fun _=>by rw [dr_len];omega,fun r h=>absurd h (List.not_mem_nil),rfl,by omega,fun _=>by rw [dr_len];omega⟩
  rintro m st ⟨i,o,r,b,rfl,hol,hi,sr,hrl,hb,ho,hE,hm1,hm2⟩
  generalize hRW:(strRows (wordsB s))=rw_ at *
  have ow:=opI_wf sm (rd:=o) (by omega) ho
  have w7o:=csD_rowC ow.1
  repeat' first
    | (refine And.intro ?_ ?_)
    | (intro h;simp only [reduceCtorEq] at h;done)
    | (intro h;rw [h])
    | (intro h)
  all_goals first
    | (show lowEdges _=true;kernel_rfl)|(show logOk _ _=true;kernel_rfl)|exact True.intro|exact Or.inr rfl|exact Or.inl rfl
    | exact rfl
    | exact ⟨_,_,sr,rfl⟩
    | exact ⟨_,_,sr.dr 1,rfl⟩
    | exact ⟨_,_,sr.dr 2,rfl⟩
    | exact ⟨_,_,sr.dr 3,rfl⟩
    | exact ⟨_,_,sr.dr 4,rfl⟩
    | exact ⟨_,hdT_size (sr.dr 4),rfl⟩
    | exact ⟨_,ow.1,ow.2,rfl⟩
    | exact absurd (show (!false)=false by with_reducible assumption) (by decide)
    | exact absurd (show (!true)=true by with_reducible assumption) (by decide)
    | (have g1:(i:Int) < numi rw_ 18:=of_decide_eq_true (by assumption)
       have gb:b=true:=by assumption
       subst gb
       have hb:=hb rfl
       have hm2:=hm2 rfl
       have hrow:csD (rowC cRd (rowI pv r))=rowI pv r:=csD_rowC (rowI_ok sr hw).1
       first
         | (show o.length+1≤maxLen;simp only [maxLen];omega)
         | (show (o.length+1) * 152≤_;omega)
         | (show Alive _ _;exact rfl)
         | (obtain ⟨m,rfl⟩:∃ m',m=m' + 1:=⟨m - 1,by omega⟩
            refine ⟨m,Nat.lt_succ_self _,i+1,o++[rowI pv r],dr 5 r,ok5 r true,?_,by rw [List.length_append,hol];rfl,by omega,sr.dr 5,by rw [dr_len];omega,?_,?_,?_,by omega,?_⟩
            · exact snapB (f:=fun x q b z=>(([sArg s,.ptr 2 1 0,.ptr 13 1 0,.ptr 5 1 0,iArg (numi rw_ 18),iArg z],[(1,[.val false [.i .i64 0],.val false [.i .i64 0],.val false [.i .i64 0],.val false [.sl true 3 []],.val false [.i .i64 0],.val false [.i .i64 0],.val false [.i .i64 0],.val false [.i .i64 0],.val false [.i .i64 0],.val false [.s ByteArray.empty],.val false [.s ByteArray.empty],.val false [.i .i64 0],.val false [.s ByteArray.empty],.val false [.s ByteArray.empty],.val false [.i .i64 0],.val false [.i .i64 0],.val false [.sl true 118 []]]),(1,[.val false [.sl false 9 q],.val false [.b b]]),(1,[.val false [.i .i64 (numi rw_ 0)],.val false [.i .i64 (numi rw_ 1)],.val false [.i .i64 (numi rw_ 2)],.val false [.sl true 3 (seenI rw_ 3)],.val false [.i .i64 (numi rw_ 6)],.val false [.i .i64 (numi rw_ 7)],.val false [.i .i64 (numi rw_ 8)],.val false [.i .i64 (numi rw_ 9)],.val false [.i .i64 (numi rw_ 10)],.val false [.s (txti rw_ 12)],.val false [.s (txti rw_ 13)],.val false [.i .i64 (numi rw_ 11)],.val false [.s (txti rw_ 14)],.val false [.s (txti rw_ 15)],.val false [.i .i64 (numi rw_ 16)],.val false [.i .i64 (numi rw_ 17)],.val false [.sl true 118 x]])]):Snap)) (congrArg (fun r=>o++[r]) hrow) rfl rfl (wrapN (n:=rw_.length+1) (by omega) (by simp only [maxLen];omega))
            · intro h5
              have:=(ok5_T h5).1
              rw [dr_len];omega
            · intro x hx
              rcases List.mem_append.1 hx with h|h
              · exact ho x h
              · rw [List.mem_singleton.1 h];exact rowI_ok sr hw
            · rw [← hE,rdsI_go g1]
            · intro h5
              have:=(ok5_T h5).1
              rw [dr_len];omega))
    | (have hT:rdsI pv (numi rw_ 18) (rw_.length+2) 0 (dr 19 rw_) (okN rw_ 19) []=(r,b,o):=by
         refine hE.symm.trans (rdsI_stop ?_)
         rintro ⟨a1,a2⟩
         first
           | exact absurd a1 (of_decide_eq_false (by assumption))
           | exact absurd (a2.symm.trans (by assumption:b=false)) Bool.noConfusion
       have hP:poI pv s=poOf (opI rw_ o) (b && (r.length == 0)) s:=by rw [poI_eq hRW,hT]
       first
         | (have hbF:b=false:=by first|assumption|exact of_notT (by assumption)
            exact resVB (hP.trans (po_no1 (by rw [hbF];rfl))) rfl rfl)
         | (have hbT:b=true:=by first|assumption|exact of_notF (by assumption)
            first
              | (have hq:decide ((r.length:Int) > 0)=true:=by assumption
                 have hq2:(r.length == 0)=false:=by have:=of_decide_eq_true hq;rw [beq_eq_false_iff_ne];omega
                 exact resVB (hP.trans (po_no1 (by rw [hq2];simp))) rfl rfl)
              | (have hq:decide ((r.length:Int) > 0)=false:=by assumption
                 have hq2:(r.length == 0)=true:=by have:=of_decide_eq_false hq;rw [beq_iff_eq];omega
                 first
                   | (have hz:(!(opText (opI rw_ o)).toList == s.toList)=true:=by rw [← w7o];assumption
                      exact resVB (hP.trans (po_no2 hz)) rfl rfl)
                   | (have hz:(!(opText (opI rw_ o)).toList == s.toList)=false:=by rw [← w7o];assumption
                      exact resVB (hP.trans (po_yes (by rw [hbT,hq2];rfl) hz)) rfl rfl))))
    | skip
end Go.Proofs.YtppgalpldaibhaaGreatDoor.Ab
