/- The reference's readers of lists, tables, values, exactly: printed by a program of this claim. The reference's readers of lists, tables, values, branch by branch. No program in sight. The reference's readers of lists, tables, values, exactly: printed by a program of this claim. -/
import Derived.Test.YtppgalpldaibhaaGreatDoorDYl
import Derived.Test.YtppgalpldaibhaaGreatDoorDYi
namespace Go.Proofs.YtppgalpldaibhaaGreatDoor.Ab
open Go.RowKit
set_option linter.unusedVariables false
set_option linter.unusedSimpArgs false
set_option maxRecDepth 100000
set_option maxHeartbeats 2000000
theorem WfD.of_rows {e:TypeId} {te:Ty} {rows:List (List D)} (he:T e=some te) (hl:rows.length≤maxLen) (h:∀ r ∈ rows,WfRow T te.cts r):WfD T (.l e) (.l rows) :=
  .sl e te rows he hl (fun k row hk=>(h row (List.mem_of_getElem? hk)).1) (fun k j ct d row hk hj hd=>(h row (List.mem_of_getElem? hk)).2 j ct d hj hd)
theorem WfRow.cons {ct:CT} {cts:List CT} {d:D} {r:List D} (h:WfD T ct d) (hr:WfRow T cts r):WfRow T (ct :: cts) (d :: r):=by
  refine ⟨by simp [hr.1],fun j ct' d' h1 h2=>?_⟩
  cases j with
  | zero=>cases h1;cases h2;exact h
  | succ j=>exact hr.2 j ct' d' h1 h2
theorem WfRow.nil:WfRow T [] []:=⟨rfl,fun j ct d h _=>by simp at h⟩
abbrev cV:List CT:=[.i .i64,.i .i64,.i .i64,.s,.l 33,.l 9,.l 91]
abbrev cR:List CT:=[.l 3,.l 153]
theorem wf7 {k n st:Int} {tx:ByteArray} {l4 l5 l6:List (List D)} (hk:inK .i64 k) (hn:inK .i64 n) (hs:inK .i64 st) (ht:tx.size≤maxLen) (h4:WfD T (.l 33) (.l l4)) (h5:WfD T (.l 9) (.l l5)) (h6:WfD T (.l 91) (.l l6)):WfRow T cV (val7 k n st tx l4 l5 l6) :=
  .cons (.int _ _ hk) (.cons (.int _ _ hn) (.cons (.int _ _ hs) (.cons (.str _ ht) (.cons h4 (.cons h5 (.cons h6 .nil))))))
theorem k0 (c:Int) (h0:-100≤c) (h1:c≤100):inK .i64 c:=by
  have e1:IntKind.i64.min = -9223372036854775808:=by decide
  have e2:IntKind.i64.max=9223372036854775807:=by decide
  rw [inK,e1,e2];omega
theorem wfNil:WfRow T cV vNil:=wf7 (k0 0 (by decide) (by decide)) (k0 0 (by decide) (by decide)) (k0 0 (by decide) (by decide)) (by decide) (.nil _) (.nil _) (.nil _)
theorem wfNum {n:Int} (h:inK .i64 n):WfRow T cV (vNum n):=wf7 (k0 1 (by decide) (by decide)) h (k0 0 (by decide) (by decide)) (by decide) (.nil _) (.nil _) (.nil _)
theorem wfErr {n:Int} (h:inK .i64 n):WfRow T cV (vErr n):=wf7 (k0 6 (by decide) (by decide)) h (k0 0 (by decide) (by decide)) (by decide) (.nil _) (.nil _) (.nil _)
theorem wfTxt {t:ByteArray} (h:t.size≤maxLen):WfRow T cV (vTxt t):=wf7 (k0 2 (by decide) (by decide)) (k0 0 (by decide) (by decide)) (k0 0 (by decide) (by decide)) h (.nil _) (.nil _) (.nil _)
theorem wfStr {n st:Int} (h:inK .i64 n) (h2:inK .i64 st):WfRow T cV (vStr n st):=wf7 (k0 4 (by decide) (by decide)) h h2 (by decide) (.nil _) (.nil _) (.nil _)
theorem wfLst {l:List (List D)} (hl:l.length≤maxLen) (h:∀ r ∈ l,WfRow T cV r):WfRow T cV (vLst l):=wf7 (k0 3 (by decide) (by decide)) (k0 0 (by decide) (by decide)) (k0 0 (by decide) (by decide)) (by decide) (WfD.of_rows (show T 33=some _ from rfl) hl h) (.nil _) (.nil _)
theorem wf_lst {v:List D} (h:WfRow T cV v) {y:List D} (hy:y ∈ lst v):WfRow T cV y:=by
  obtain ⟨i,hi,rfl⟩:=mem_at [] hy
  exact (h.rows (j:=4) rfl).row rfl hi
theorem wf_int {v:List D} (h:WfRow T cV v):inK .i64 (iAt v 1):=by
  obtain ⟨d0,r0,rfl,w0,h⟩:=h.cons'
  obtain ⟨d1,r1,rfl,w1,h⟩:=h.cons'
  obtain ⟨n1,rfl,h1⟩:=w1.int'
  exact h1
theorem wf_rowOf {v:List D} (h:WfRow T cV v):WfRow T cR (rowOfV v):=by
  refine .cons (WfD.of_rows (show T 3=some _ from rfl) ?_ ?_) (.cons (.nil _) .nil)
  · rw [List.length_map];exact (h.rows (j:=4) rfl).len
  · intro r hr
    obtain ⟨y,hy,rfl⟩:=List.mem_map.1 hr
    exact .cons (.int _ _ (wf_int (wf_lst h hy))) .nil
theorem wfTbl {t:ByteArray} {l:List (List D)} (ht:t.size≤1048576) (hl:l.length≤maxLen) (h:∀ r ∈ l,WfRow T cV r):WfRow T cV (vTbl (strRows (wordsB t)) (l.map rowOfV)):=by
  refine wf7 (k0 5 (by decide) (by decide)) (k0 0 (by decide) (by decide)) (k0 0 (by decide) (by decide)) (by decide) (.nil _) (WfD.of_rows (show T 9=some _ from rfl) ?_ ?_) (WfD.of_rows (show T 91=some _ from rfl) ?_ ?_)
  · rw [strRows_len];have:=wordsB_length t;simp only [maxLen];omega
  · intro r hr
    obtain ⟨x,hx,rfl⟩:=List.mem_map.1 hr
    exact .cons (.str _ (Nat.le_trans (wordsB_size hx) (by simp only [maxLen];omega))) .nil
  · rw [List.length_map];exact hl
  · intro r hr
    obtain ⟨v,hv,rfl⟩:=List.mem_map.1 hr
    exact wf_rowOf (h v hv)
theorem errC_in (t:ByteArray):inK .i64 (errC t):=by
  have e1:IntKind.i64.min = -9223372036854775808:=by decide
  have e2:IntKind.i64.max=9223372036854775807:=by decide
  have hl:(strRows errs).length=9:=rfl
  unfold errC
  split
  · exact k0 0 (by decide) (by decide)
  · rcases firstB_cases (strRows errs).length (isAt (strRows errs) t) with ⟨h,_⟩|⟨i,hi,h,_⟩
    · unfold idxT
      rw [h,inK,e1,e2];decide
    · unfold idxT
      rw [h,inK,e1,e2]
      omega
theorem wf_items {par:Int→List D × Int} {s:ByteArray} {k0:Int} (hp:∀ k,k0≤k→k≤s.size→Pos s k (wRow (par k).1) (par k).2) (hw:∀ k,k0≤k→k≤s.size→WfRow T cV (par k).1) :
    ∀ (m:Nat) (k:Int) (out:List (List D)),k0≤k→k≤s.size→out.length+m=64→(∀ r ∈ out,WfRow T cV r)→(itemsF par s m k out).1.length≤64∧∀ r ∈ (itemsF par s m k out).1,WfRow T cV r
  | 0,_,_,_,_,_,_=>⟨Nat.zero_le _,fun r hr=>absurd hr (List.not_mem_nil)⟩
  | m + 1, k,out,h0,h,hm,ho=>by
    have a:=hp k h0 h
    have w:=hw k h0 h
    have ho' : ∀ r ∈ out++[(par k).1],WfRow T cV r:=by
      intro r hr
      rcases List.mem_append.1 hr with h|h
      · exact ho r h
      · rw [List.mem_singleton.1 h];exact w
    unfold itemsF
    split
    · exact ⟨Nat.zero_le _,fun r hr=>absurd hr (List.not_mem_nil)⟩
    · rename_i h1
      rcases a with ⟨a,_⟩|⟨a1,a2,a3⟩
      · omega
      split
      · exact ⟨by show (out++[(par k).1]).length≤64;rw [List.length_append,List.length_singleton];omega,ho'⟩
      · split
        · exact ⟨Nat.zero_le _,fun r hr=>absurd hr (List.not_mem_nil)⟩
        · rename_i h2 h3
          have b:=stB_le (by simpa using h3)
          have e:(COMMA.size:Int)=2:=rfl
          exact wf_items hp hw m _ _ (by omega) (by omega) (by rw [List.length_append,List.length_singleton];omega) ho'
theorem wf_itm {par:Int→List D × Int} {s:ByteArray} {k0:Int} (hp:∀ k,k0≤k→k≤s.size→Pos s k (wRow (par k).1) (par k).2) (hw:∀ k,k0≤k→k≤s.size→WfRow T cV (par k).1) (h:k0≤s.size):(itmP par s k0).1.length≤64∧∀ r ∈ (itmP par s k0).1,WfRow T cV r:=by
  unfold itmP
  split
  · exact ⟨Nat.zero_le _,fun r hr=>absurd hr (List.not_mem_nil)⟩
  · exact wf_items hp hw 64 k0 [] (Int.le_refl _) h rfl (fun r hr=>absurd hr (List.not_mem_nil))
theorem wf_par {s:ByteArray} (hs:s.size≤1048576):∀ (n:Nat) (k:Int),0≤k→k≤s.size→WfRow T cV (parF s n k).1
  | 0,_,_,_=>wfNil
  | n+1,k,h0,h=>by
    have itm:∀ k0,0≤k0→k0≤(s.size:Int)→_:=fun k0 h0 h=>wf_itm (par:=parF s n) (s:=s) (k0:=k0) (fun k hk hs=>parF_pos s n k (by omega) hs) (fun k hk hk2=>wf_par hs n k (by omega) hk2) h
    show WfRow T cV (parP (itmP (parF s n) s) s k).1
    unfold parP
    split
    · refine wfTxt ?_
      rcases quoP_pos h0 h with ⟨h1,h2⟩|⟨h1,h2,h3⟩
      · rw [h2];decide
      · simp only [maxLen];omega
    split
    · rename_i h1
      have b:=stB_le h1
      have e:(LBR.size:Int)=1:=rfl
      have q:=itm (k+1) (by omega) (by omega)
      exact wfLst (Nat.le_trans q.1 (by decide)) q.2
    split
    · unfold strP
      repeat' split
      all_goals first
        | exact wfNil
        | exact wfStr (intP_in _ _) (intP_in _ _)
    split
    · rename_i h1
      have b:=stB_le h1
      have e:(TBO.size:Int)=6:=rfl
      unfold tabP
      rcases quoP_pos (s:=s) (k:=k+6) (by omega) (by omega) with ⟨q1,q2⟩|⟨q1,q2,q3⟩
      · rw [if_pos (by omega)];exact wfNil
      rw [if_neg (by omega)]
      split
      · exact wfNil
      rename_i c1
      have c2:=stB_le (by simpa using c1)
      have e3:(CLB.size:Int)=3:=rfl
      have q:=itm ((quoP s (k+6)).2+3) (by omega) (by omega)
      split
      · exact wfNil
      split
      · exact wfNil
      exact wfTbl (by omega) (Nat.le_trans q.1 (by decide)) q.2
    split
    · exact wfErr (errC_in _)
    · exact wfNum (intP_in _ _)
end Go.Proofs.YtppgalpldaibhaaGreatDoor.Ab
namespace Go.Proofs.YtppgalpldaibhaaGreatDoor.Ab
open Go.RowKit
set_option linter.unusedVariables false
def Fu (n:Nat) (s:ByteArray) (k:Int):Prop:=(s.size:Int)+1 - k≤n
theorem Fu.of {n:Nat} {s:ByteArray} {k j:Int} (h:Fu n s k) (hj:k≤j):Fu n s j:=by unfold Fu at *;omega
theorem Fu.less {n:Nat} {s:ByteArray} {k j:Int} (h:Fu (n+1) s k) (hj:k+1≤j):Fu n s j:=by unfold Fu at *;omega
section
variable {par:Int→List D × Int} {s:ByteArray}
theorem itF_0 {m:Nat} {k:Int} {out:List (List D)} (hm:out.length+m=64) (h:decide ((out.length:Int) < 64)=false):itemsF par s m k out=([], -1):=by
  have:=of_decide_eq_false h
  have:m=0:=by omega
  subst this;rfl
theorem itF_s {m:Nat} {out:List (List D)} (hm:out.length+m=64) (h:decide ((out.length:Int) < 64)=true):∃ m',m=m' + 1:=by
  have:=of_decide_eq_true h
  exact ⟨m - 1,by omega⟩
theorem itF_1 {m:Nat} {k:Int} {out:List (List D)} (h:decide ((par k).2 < 0)=true):itemsF par s (m+1) k out=([], -1):=by
  unfold itemsF;rw [if_pos (of_decide_eq_true h)]
theorem itF_2 {m:Nat} {k:Int} {out:List (List D)} (h:decide ((par k).2 < 0)=false) (h2:stB s (par k).2 RBR=true):itemsF par s (m+1) k out=(out++[(par k).1],(par k).2+1):=by
  unfold itemsF;rw [if_neg (of_decide_eq_false h),if_pos h2]
theorem itF_3 {m:Nat} {k:Int} {out:List (List D)} (h:decide ((par k).2 < 0)=false) (h2:stB s (par k).2 RBR=false) (h3:(!stB s (par k).2 COMMA)=true):itemsF par s (m+1) k out=([], -1):=by
  unfold itemsF;rw [if_neg (of_decide_eq_false h),if_neg (by rw [h2];decide),if_pos (of_notT h3)]
theorem itF_4 {m:Nat} {k:Int} {out:List (List D)} (h:decide ((par k).2 < 0)=false) (h2:stB s (par k).2 RBR=false) (h3:(!stB s (par k).2 COMMA)=false):itemsF par s (m+1) k out=itemsF par s m ((par k).2+2) (out++[(par k).1]):=by
  rw [itemsF,if_neg (of_decide_eq_false h),if_neg (by rw [h2];decide),if_neg (by rw [of_notF h3];decide)]
theorem itm_1 {k:Int} (h:stB s k RBR=true):itmP par s k=([],k+1):=if_pos h
theorem itm_2 {k:Int} (h:stB s k RBR=false):itmP par s k=itemsF par s 64 k []:=if_neg (by rw [h];decide)
end
theorem par_in {s:ByteArray} {n:Nat} {k:Int} (h:PosIn s k) (hn:decide ((parF s n k).2 < 0)=false):PosIn s (parF s n k).2∧k < (parF s n k).2:=by
  have:=of_decide_eq_false hn
  obtain ⟨a,b,d⟩:=h
  rcases parF_pos s n k b d with h1|h1
  · omega
  · exact ⟨⟨a,by omega,h1.2.1⟩,h1.1⟩
section
variable {itm:Int→List (List D) × Int} {s:ByteArray} {k:Int}
theorem tab_1 (h:decide ((quoP s k).2 < 0)=true):tabP itm s k=(vNil, -1):=by unfold tabP;rw [if_pos (of_decide_eq_true h)]
theorem tab_2 (h:decide ((quoP s k).2 < 0)=false) (h2:(!stB s (quoP s k).2 CLB)=true):tabP itm s k=(vNil, -1):=by
  unfold tabP;rw [if_neg (of_decide_eq_false h),if_pos (of_notT h2)]
theorem tab_3 {y:Int} (hy:y=(quoP s k).2+3) (h:decide ((quoP s k).2 < 0)=false) (h2:(!stB s (quoP s k).2 CLB)=false) (h3:decide ((itm y).2 < 0)=true):tabP itm s k=(vNil, -1):=by
  subst hy;unfold tabP;rw [if_neg (of_decide_eq_false h),if_neg (by rw [of_notF h2];decide),if_pos (of_decide_eq_true h3)]
theorem tab_4 {y:Int} (hy:y=(quoP s k).2+3) (h:decide ((quoP s k).2 < 0)=false) (h2:(!stB s (quoP s k).2 CLB)=false) (h3:decide ((itm y).2 < 0)=false) (h4:(!stB s (itm y).2 RPA)=true):tabP itm s k=(vNil, -1):=by
  subst hy;unfold tabP;rw [if_neg (of_decide_eq_false h),if_neg (by rw [of_notF h2];decide),if_neg (of_decide_eq_false h3),if_pos (of_notT h4)]
theorem tab_5 {y:Int} (hy:y=(quoP s k).2+3) (h:decide ((quoP s k).2 < 0)=false) (h2:(!stB s (quoP s k).2 CLB)=false) (h3:decide ((itm y).2 < 0)=false) (h4:(!stB s (itm y).2 RPA)=false) :
    tabP itm s k=(vTbl (strRows (wordsB (quoP s k).1)) ((itm y).1.map rowOfV),(itm y).2+1):=by
  subst hy;unfold tabP;rw [if_neg (of_decide_eq_false h),if_neg (by rw [of_notF h2];decide),if_neg (of_decide_eq_false h3),if_neg (by rw [of_notF h4];decide)]
theorem par_1 (h:stB s k QUO=true):parP itm s k=(vTxt (quoP s k).1,(quoP s k).2):=if_pos h
theorem par_2 {y:Int} (hy:y=k+1) (h1:stB s k QUO=false) (h:stB s k LBR=true):parP itm s k=(vLst (itm y).1,(itm y).2):=by
  subst hy;unfold parP;rw [if_neg (by rw [h1];decide),if_pos h]
theorem par_3 {y:Int} (hy:y=k+6) (h1:stB s k QUO=false) (h2:stB s k LBR=false) (h:stB s k RNG=true):parP itm s k=strP s y:=by
  subst hy;unfold parP;rw [if_neg (by rw [h1];decide),if_neg (by rw [h2];decide),if_pos h]
theorem par_4 {y:Int} (hy:y=k+6) (h1:stB s k QUO=false) (h2:stB s k LBR=false) (h3:stB s k RNG=false) (h:stB s k TBO=true):parP itm s k=tabP itm s y:=by
  subst hy;unfold parP;rw [if_neg (by rw [h1];decide),if_neg (by rw [h2];decide),if_neg (by rw [h3];decide),if_pos h]
theorem par_5 {y:Int} (hy:y=k+6) (h1:stB s k QUO=false) (h2:stB s k LBR=false) (h3:stB s k RNG=false) (h4:stB s k TBO=false) (h:stB s k ERR=true):parP itm s k=(vErr (errC (s.extract y.toNat s.size)),(s.size:Int)):=by
  subst hy;unfold parP;rw [if_neg (by rw [h1];decide),if_neg (by rw [h2];decide),if_neg (by rw [h3];decide),if_neg (by rw [h4];decide),if_pos h]
theorem par_6 (h1:stB s k QUO=false) (h2:stB s k LBR=false) (h3:stB s k RNG=false) (h4:stB s k TBO=false) (h5:stB s k ERR=false):parP itm s k=(vNum (intP s k).1,(intP s k).2):=by
  unfold parP;rw [if_neg (by rw [h1];decide),if_neg (by rw [h2];decide),if_neg (by rw [h3];decide),if_neg (by rw [h4];decide),if_neg (by rw [h5];decide)]
end
end Go.Proofs.YtppgalpldaibhaaGreatDoor.Ab
namespace Go.Proofs.YtppgalpldaibhaaGreatDoor.Ab
open Go.RowKit
set_option linter.unusedVariables false
set_option linter.unusedSimpArgs false
set_option maxRecDepth 100000
set_option maxHeartbeats 2000000
theorem xi171 (n:Nat) (hn:FOk Tryz.prog T 88 (spVP [.i .i64,.i .i64,.i .i64,.s,.l 33,.l 9,.l 91] (Fu n) (fun s k=>parF s n k))):FOk Tryz.prog T 171 (spLP 33 (Fu n) (fun s k=>itmP (parF s n) s k)):=by
  refine fok (env:=envL [(168,spStarts),(88,(spVP [.i .i64,.i .i64,.i .i64,.s,.l 33,.l 9,.l 91] (Fu n) (fun s k=>parF s n k)))]) (N:=47) tabT (envL_cons xk168 (envL_cons hn envL_nil)) mixed Tryz.func171 rfl Tryz.call171 Tryz.ntmps171 ?_
  rintro args ⟨s,k,hp,hf,rfl⟩ hwf
  refine ⟨by simp,?_⟩
  clear hwf
  rw [Tryz.results171]
  repeat' first
    | (refine And.intro ?_ ?_)
    | (intro h;simp only [reduceCtorEq] at h;done)
    | (intro h;rw [h])
    | (intro h)
  all_goals first
    | (show lowEdges _=true;kernel_rfl)|(show logOk _ _=true;kernel_rfl)|exact True.intro|exact Or.inr rfl|exact Or.inl rfl
    | exact ⟨_,_,_,hp,by decide,rfl⟩
    | exact resL (itm_1 (by assumption)) rfl (posC hp (w:=RBR) (by decide) (by assumption)).1
    | skip
  have hr:stB s k RBR=false:=by assumption
  refine awp_loop (Q:=_) [0,1,6] [] (fun m st=>∃ (j:Int) (out:List (List D)),st=([sArg s,iArg j,.val false [.sl true 33 out]],[])∧k≤j∧PosIn s j∧out.length+m=64∧itemsF (parF s n) s m j out=itmP (parF s n) s k) ?_ ?_
  · exact ⟨rfl,64,k,[],rfl,Int.le_refl _,hp,rfl,(itm_2 hr).symm⟩
  rintro m st ⟨j,out,rfl,hj,pj,hm,hI⟩
  repeat' first
    | (refine And.intro ?_ ?_)
    | (intro h;simp only [reduceCtorEq] at h;done)
    | (intro h;rw [h])
    | (intro h)
  all_goals first
    | (show lowEdges _=true;kernel_rfl)|(show logOk _ _=true;kernel_rfl)|exact True.intro|exact Or.inr rfl|exact Or.inl rfl
    | exact ⟨_,_,pj,hf.of hj,rfl⟩
    | (have h0:decide (j ≥ 0)=false:=by assumption
       exact absurd pj.2.1 (by have:=of_decide_eq_false h0;omega))
    | exact resL (hI.symm.trans (itF_0 hm (by assumption))) rfl rfl
    | (obtain ⟨m, rfl⟩:=itF_s hm (by assumption)
       first
         | exact resL (hI.symm.trans (itF_1 (by assumption))) rfl rfl
         | (have hn0:decide ((parF s n j).2 < 0)=false:=by assumption
            have pin:=par_in pj hn0
            have w7:csD (rowC [.i .i64,.i .i64,.i .i64,.s,.l 33,.l 9,.l 91] (parF s n j).1)=(parF s n j).1:=csD_rowC (wf_par pj.1 n j pj.2.1 pj.2.2)
            first
              | exact ⟨_,_,_,pin.1,by decide,rfl⟩
              | (show out.length+1≤maxLen;simp only [maxLen];omega)
              | (show (out.length+1) * 112≤_;omega)
              | (refine resL (hI.symm.trans (itF_2 hn0 (by assumption))) ?_ (posC pin.1 (w:=RBR) (by decide) (by assumption)).1
                 show out++([]++[csD (rowC [.i .i64,.i .i64,.i .i64,.s,.l 33,.l 9,.l 91] (parF s n j).1)])=out++[(parF s n j).1]
                 rw [w7];rfl)
              | exact resL (hI.symm.trans (itF_3 hn0 (by assumption) (by assumption))) rfl rfl
              | (show Alive _ _;exact rfl)
              | (have hc:=(by assumption:(!stB s (parF s n j).2 COMMA)=false)
                 have hq:=posC pin.1 (w:=COMMA) (by decide) (of_notF hc)
                 have hq1:IntKind.i64.wrap ((parF s n j).2+2)=(parF s n j).2+2:=hq.1
                 refine ⟨m,Nat.lt_succ_self _,(parF s n j).2+2,out++[(parF s n j).1],?_,by omega,hq.2,by rw [List.length_append,List.length_singleton];omega,(itF_4 hn0 (by assumption) hc).symm.trans hI⟩
                 refine snapRZ (f:=fun r z=>(([sArg s,iArg z,.val false [.sl true 33 r]],[]):Snap)) (a:=IntKind.i64.wrap ((parF s n j).2+2)) (r:=out++([]++[csD (rowC [.i .i64,.i .i64,.i .i64,.s,.l 33,.l 9,.l 91] (parF s n j).1)])) ?_ hq1
                 rw [w7];rfl)))
    | skip
theorem xp88 (n:Nat) (hi:FOk Tryz.prog T 171 (spLP 33 (Fu n) (fun s k=>itmP (parF s n) s k))) (ht:FOk Tryz.prog T 173 (spVP [.i .i64,.i .i64,.i .i64,.s,.l 33,.l 9,.l 91] (Fu n) (fun s k=>tabP (itmP (parF s n) s) s k))):FOk Tryz.prog T 88 (spVP [.i .i64,.i .i64,.i .i64,.s,.l 33,.l 9,.l 91] (Fu (n+1)) (fun s k=>parF s (n+1) k)):=by
  refine fok (env:=envL [(168,spStarts),(169,spQuoP),(170,(spMkT [.i .i64,.i .i64,.i .i64,.s,.l 33,.l 9,.l 91] vTxt)),(171,(spLP 33 (Fu n) (fun s k=>itmP (parF s n) s k))),(172,(spVP [.i .i64,.i .i64,.i .i64,.s,.l 33,.l 9,.l 91] (fun _ _=>True) strP)),(173,(spVP [.i .i64,.i .i64,.i .i64,.s,.l 33,.l 9,.l 91] (Fu n) (fun s k=>tabP (itmP (parF s n) s) s k))),(175,spErrC),(174,(spMk1 [.i .i64,.i .i64,.i .i64,.s,.l 33,.l 9,.l 91] vErr)),(176,spIntP),(177,(spMk1 [.i .i64,.i .i64,.i .i64,.s,.l 33,.l 9,.l 91] vNum))]) (N:=80) tabT (envL_cons xk168 (envL_cons xk169 (envL_cons xk170 (envL_cons hi (envL_cons xk172 (envL_cons ht (envL_cons xk175 (envL_cons xk174 (envL_cons xk176 (envL_cons xk177 envL_nil)))))))))) mixed Tryz.func88 rfl Tryz.call88 Tryz.ntmps88 ?_
  rintro args ⟨s,k,hp,hf,rfl⟩ hwf
  refine ⟨by simp,?_⟩
  clear hwf
  rw [Tryz.results88]
  repeat' first
    | (refine And.intro ?_ ?_)
    | (intro h;simp only [reduceCtorEq] at h;done)
    | (intro h;rw [h])
    | (intro h)
  all_goals first
    | (show lowEdges _=true;kernel_rfl)|(show logOk _ _=true;kernel_rfl)|exact True.intro|exact Or.inr rfl|exact Or.inl rfl
    | exact ⟨_,_,_,hp,by decide,rfl⟩
    | exact ⟨_,_,hp,rfl⟩
    | exact ⟨_,rfl⟩
    | exact ⟨_,_,rfl⟩
    | exact resV (par_1 (by assumption)) rfl rfl
    | exact resV (par_6 (by assumption:stB s k QUO=false) (by assumption:stB s k LBR=false) (by assumption:stB s k RNG=false) (by assumption:stB s k TBO=false) (by assumption:stB s k ERR=false)) rfl rfl
    | (have hy:=(by assumption:stB s k LBR=true)
       have hq:=posC hp (w:=LBR) (by decide) hy
       have hq1:IntKind.i64.wrap (k+1)=k+1:=hq.1
       have hq2:PosIn s (IntKind.i64.wrap (k+1)):=by rw [hq1];exact hq.2
       first
         | exact ⟨_,_,hq2,hf.less (by rw [hq1];exact Int.le_refl _),rfl⟩
         | exact resV (par_2 hq1 (by assumption:stB s k QUO=false) hy) rfl rfl)
    | (have hy:=(by assumption:stB s k RNG=true)
       have hq:=posC hp (w:=RNG) (by decide) hy
       have hq1:IntKind.i64.wrap (k+6)=k+6:=hq.1
       have hq2:PosIn s (IntKind.i64.wrap (k+6)):=by rw [hq1];exact hq.2
       first
         | exact ⟨_,_,hq2,trivial,rfl⟩
         | exact resV (par_3 hq1 (by assumption:stB s k QUO=false) (by assumption:stB s k LBR=false) hy) rfl rfl)
    | (have hy:=(by assumption:stB s k TBO=true)
       have hq:=posC hp (w:=TBO) (by decide) hy
       have hq1:IntKind.i64.wrap (k+6)=k+6:=hq.1
       have hq2:PosIn s (IntKind.i64.wrap (k+6)):=by rw [hq1];exact hq.2
       first
         | exact ⟨_,_,hq2,hf.less (by rw [hq1];omega),rfl⟩
         | exact resV (par_4 hq1 (by assumption:stB s k QUO=false) (by assumption:stB s k LBR=false) (by assumption:stB s k RNG=false) hy) rfl rfl)
    | (have hy:=(by assumption:stB s k ERR=true)
       have hq:=posC hp (w:=ERR) (by decide) hy
       have hq1:IntKind.i64.wrap (k+6)=k+6:=hq.1
       have hq2:PosIn s (IntKind.i64.wrap (k+6)):=by rw [hq1];exact hq.2
       first
         | exact hq2.2.1
         | exact hq2.2.2
         | exact Int.le_refl _
         | (refine resV (par_5 hq1 (by assumption:stB s k QUO=false) (by assumption:stB s k LBR=false) (by assumption:stB s k RNG=false) (by assumption:stB s k TBO=false) hy) ?_ rfl;rfl))
    | skip
end Go.Proofs.YtppgalpldaibhaaGreatDoor.Ab
