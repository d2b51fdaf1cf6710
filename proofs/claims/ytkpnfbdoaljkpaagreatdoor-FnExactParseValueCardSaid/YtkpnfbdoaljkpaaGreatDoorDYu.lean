/- The program's readers of values, exactly: printed by a program of this -/
import Derived.Test.YtkpnfbdoaljkpaaGreatDoorDYl
import Derived.Test.YtkpnfbdoaljkpaaGreatDoorDYv
namespace Go.Proofs.YtkpnfbdoaljkpaaGreatDoor.Ab
open Go.RowKit
set_option linter.unusedVariables false
set_option linter.unusedSimpArgs false
set_option maxRecDepth 100000
set_option maxHeartbeats 2000000
theorem xk153:FOk Tryz.prog T 153 spHasP:=hasP_ok Tryz.call153 Tryz.strings_HasPrefix
theorem xk157:FOk Tryz.prog T 157 spIdxB:=idxB_ok Tryz.call157 Tryz.strings_IndexByte
theorem xk156:FOk Tryz.prog T 156 (spMk1 [.i .i64,.i .i64,.i .i64,.s,.l 53,.l 9,.l 131] vNum):=by
  refine fok (env:=envL []) (N:=5) tabT envL_nil mixed Tryz.func156 rfl Tryz.call156 Tryz.ntmps156 ?_
  rintro args ⟨n,rfl⟩ hwf
  refine ⟨by simp,?_⟩
  clear hwf
  rw [Tryz.results156]
  repeat' first
    | (refine And.intro ?_ ?_)
    | (intro h;simp only [reduceCtorEq] at h;done)
    | (intro h;rw [h])
    | (intro h)
  all_goals first
    | (show lowEdges _=true;kernel_rfl)|(show logOk _ _=true;kernel_rfl)|exact True.intro|exact Or.inr rfl|exact Or.inl rfl
    | exact rfl
    | skip
theorem xk158:FOk Tryz.prog T 158 (spMkT [.i .i64,.i .i64,.i .i64,.s,.l 53,.l 9,.l 131] vTxt):=by
  refine fok (env:=envL []) (N:=5) tabT envL_nil mixed Tryz.func158 rfl Tryz.call158 Tryz.ntmps158 ?_
  rintro args ⟨t,rfl⟩ hwf
  refine ⟨by simp,?_⟩
  clear hwf
  rw [Tryz.results158]
  repeat' first
    | (refine And.intro ?_ ?_)
    | (intro h;simp only [reduceCtorEq] at h;done)
    | (intro h;rw [h])
    | (intro h)
  all_goals first
    | (show lowEdges _=true;kernel_rfl)|(show logOk _ _=true;kernel_rfl)|exact True.intro|exact Or.inr rfl|exact Or.inl rfl
    | exact rfl
    | skip
theorem xk106:FOk Tryz.prog T 106 (spTake):=by
  refine fokB (env:=envL [(153,spHasP)]) (N:=27) tabT (envL_cons xk153 envL_nil) mixed Tryz.func106 rfl Tryz.call106 Tryz.ntmps106 ?_
  rintro cs args ⟨s,w,k,b,hp,hw,he⟩ hwf
  simp only [List.cons.injEq,SV.tup.injEq,Prod.mk.injEq,true_and,and_true] at he
  obtain ⟨rfl,rfl⟩:=he
  obtain ⟨hz,h0,h1⟩:=id hp
  obtain ⟨k,rfl⟩:=Int.eq_ofNat_of_zero_le h0
  have hk:k≤s.size:=by omega
  have hy:=posK hp (w.size:Int) (by omega) (by omega)
  refine ⟨by simp,?_⟩
  clear hwf
  rw [Tryz.results106]
  repeat' first
    | (refine And.intro ?_ ?_)
    | (intro h;simp only [reduceCtorEq] at h;done)
    | (intro h;rw [h])
    | (intro h)
  all_goals first
    | (show lowEdges _=true;kernel_rfl)|(show logOk _ _=true;kernel_rfl)|exact True.intro|exact Or.inr rfl|exact Or.inl rfl
    | with_reducible exact Int.natCast_nonneg _
    | (show (k:Int)≤(s.size:Int);omega)
    | exact Int.le_refl _
    | exact ⟨_,_,rfl⟩
    | (have hz:(!stB s (k:Int) w)=true:=by rw [← pre_st hk];assumption
       first
         | exact resB (of_notT hz).symm
         | exact updR (tk_no hz) rfl)
    | (have hz:(!stB s (k:Int) w)=false:=by rw [← pre_st hk];assumption
       first
         | exact resB (of_notF hz).symm
         | exact updR (hy.trans (tk_yes hz)) rfl)
    | skip
theorem xk109:FOk Tryz.prog T 109 (spRd [.i .i64,.i .i64,.i .i64,.s,.l 53,.l 9,.l 131] (fun _ _ _=>True) numIR):=by
  refine fokB (env:=envL [(155,(spPrs (-999999999999) 999999999999)),(156,(spMk1 [.i .i64,.i .i64,.i .i64,.s,.l 53,.l 9,.l 131] vNum))]) (N:=89) tabT (envL_cons ok155 (envL_cons xk156 envL_nil)) mixed Tryz.func109 rfl Tryz.call109 Tryz.ntmps109 ?_
  rintro cs args ⟨s,k,b,hp,_,he⟩ hwf
  simp only [List.cons.injEq,SV.tup.injEq,Prod.mk.injEq,true_and,and_true] at he
  obtain ⟨rfl,rfl⟩:=he
  obtain ⟨hz,h0,h1⟩:=id hp
  obtain ⟨k,rfl⟩:=Int.eq_ofNat_of_zero_le h0
  have hk:k≤s.size:=by omega
  refine ⟨by simp,?_⟩
  clear hwf
  rw [Tryz.results109]
  repeat' first
    | (refine And.intro ?_ ?_)
    | (intro h;simp only [reduceCtorEq] at h;done)
    | (intro h;rw [h])
    | (intro h)
  all_goals first
    | (show lowEdges _=true;kernel_rfl)|(show logOk _ _=true;kernel_rfl)|exact True.intro|exact Or.inr rfl|exact Or.inl rfl
    | skip
  refine awp_loop (Q:=_) [0,2,3] [89,2] (fun m st=>∃ j:Nat,st=([.ptr 89 0 0,.ptr 2 1 0,iArg (k:Int)],[(0,[.val false [.s s],.val false [.i .i64 (j:Int)],.val false [.b b]]),(1,[.val false [.i .i64 0],.val false [.i .i64 0],.val false [.i .i64 0],.val false [.s ByteArray.empty],.val false [.sl true 53 []],.val false [.sl true 9 []],.val false [.sl true 131 []]])])∧k≤j∧j≤s.size∧runB mdB s j=numIE s (k:Int)∧m=s.size - j) ?_ ?_
  · exact ⟨rfl,s.size - k,k,rfl,Nat.le_refl _,hk,rfl,rfl⟩
  rintro m st ⟨j,rfl,j0,j1,jr,rfl⟩
  repeat' first
    | (refine And.intro ?_ ?_)
    | (intro h;simp only [reduceCtorEq] at h;done)
    | (intro h;rw [h])
    | (intro h)
  all_goals first
    | (show lowEdges _=true;kernel_rfl)|(show logOk _ _=true;kernel_rfl)|exact True.intro|exact Or.inr rfl|exact Or.inl rfl
    | with_reducible exact Int.natCast_nonneg _
    | with_reducible exact of_decide_eq_true (by with_reducible assumption)
    | (show Alive _ _;exact rfl)
    | (have hj:j < s.size:=ltN (by with_reducible assumption)
       have hm:mdB (bAt s j)=true:=by
         first
           | exact md_1 (by assumption)
           | exact md_2 (by assumption) (by assumption)
       refine ⟨s.size - (j+1),by omega,j+1,?_,by omega,by omega,(runB_hit hj hm).symm.trans jr,rfl⟩
       exact congrArg (fun z:Int=>(([.ptr 89 0 0,.ptr 2 1 0,iArg (k:Int)],[(0,[.val false [.s s],.val false [.i .i64 z],.val false [.b b]]),(1,[.val false [.i .i64 0],.val false [.i .i64 0],.val false [.i .i64 0],.val false [.s ByteArray.empty],.val false [.sl true 53 []],.val false [.sl true 9 []],.val false [.sl true 131 []]])]):Snap)) (wrapN hj (by simp only [maxLen];omega)))
    | (have je:j=numIE s (k:Int):=by
         rw [← jr]
         first
           | exact (runB_end (nltN (by with_reducible assumption))).symm
           | exact (runB_miss (ltN (by with_reducible assumption)) (md_3 (by assumption) (by assumption))).symm
           | exact (runB_miss (ltN (by with_reducible assumption)) (md_4 (by assumption) (by assumption))).symm
       subst je
       first
         | (show (k:Int)≤(numIE s (k:Int):Int);omega)
         | (show (numIE s (k:Int):Int)≤(s.size:Int);omega)
         | (refine ⟨_,?_,rfl⟩;show (s.extract k (numIE s (k:Int))).size≤_;rw [ByteArray.size_extract];omega)
         | exact ⟨_,rfl⟩
         | exact rfl
         | (refine updR rfl ?_;show _=(b && (prsI s (k:Int)).2);rw [show b=true by assumption];rfl)
         | (refine updR rfl ?_;show _=(b && (prsI s (k:Int)).2);rw [show b=false by assumption];rfl))
    | skip
end Go.Proofs.YtkpnfbdoaljkpaaGreatDoor.Ab
