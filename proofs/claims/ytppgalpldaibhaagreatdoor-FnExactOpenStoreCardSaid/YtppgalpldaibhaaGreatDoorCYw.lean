/- The program's readers of values, exactly: printed by a program of this claim. -/
import Derived.Test.YtppgalpldaibhaaGreatDoorCYo
import Derived.Test.YtppgalpldaibhaaGreatDoorCYv
namespace Go.Proofs.YtppgalpldaibhaaGreatDoor.Ab
open Go.RowKit
set_option linter.unusedVariables false
set_option linter.unusedSimpArgs false
set_option maxRecDepth 100000
set_option maxHeartbeats 2000000
theorem xk225:FOk Tryz.prog T 225 spHasP:=hasP_ok Tryz.call225 Tryz.strings_HasPrefix
theorem xk229:FOk Tryz.prog T 229 spIdxB:=idxB_ok Tryz.call229 Tryz.strings_IndexByte
theorem xk228:FOk Tryz.prog T 228 (spMk1 [.i .i64,.i .i64,.i .i64,.s,.l 33,.l 9,.l 91] vNum):=by
  refine fok (env:=envL []) (N:=5) tabT envL_nil mixed Tryz.func228 rfl Tryz.call228 Tryz.ntmps228 ?_
  rintro args ⟨n,rfl⟩ hwf
  refine ⟨by simp,?_⟩
  clear hwf
  rw [Tryz.results228]
  repeat' first
    | (refine And.intro ?_ ?_)
    | (intro h;simp only [reduceCtorEq] at h;done)
    | (intro h;rw [h])
    | (intro h)
  all_goals first
    | (show lowEdges _=true;kernel_rfl)|(show logOk _ _=true;kernel_rfl)|exact True.intro|exact Or.inr rfl|exact Or.inl rfl
    | exact rfl
    | skip
theorem xk152:FOk Tryz.prog T 152 (spMk1 [.i .i64,.i .i64,.i .i64,.s,.l 33,.l 9,.l 91] vErr):=by
  refine fok (env:=envL []) (N:=5) tabT envL_nil mixed Tryz.func152 rfl Tryz.call152 Tryz.ntmps152 ?_
  rintro args ⟨n,rfl⟩ hwf
  refine ⟨by simp,?_⟩
  clear hwf
  rw [Tryz.results152]
  repeat' first
    | (refine And.intro ?_ ?_)
    | (intro h;simp only [reduceCtorEq] at h;done)
    | (intro h;rw [h])
    | (intro h)
  all_goals first
    | (show lowEdges _=true;kernel_rfl)|(show logOk _ _=true;kernel_rfl)|exact True.intro|exact Or.inr rfl|exact Or.inl rfl
    | exact rfl
    | skip
theorem xk230:FOk Tryz.prog T 230 (spMkT [.i .i64,.i .i64,.i .i64,.s,.l 33,.l 9,.l 91] vTxt):=by
  refine fok (env:=envL []) (N:=5) tabT envL_nil mixed Tryz.func230 rfl Tryz.call230 Tryz.ntmps230 ?_
  rintro args ⟨t,rfl⟩ hwf
  refine ⟨by simp,?_⟩
  clear hwf
  rw [Tryz.results230]
  repeat' first
    | (refine And.intro ?_ ?_)
    | (intro h;simp only [reduceCtorEq] at h;done)
    | (intro h;rw [h])
    | (intro h)
  all_goals first
    | (show lowEdges _=true;kernel_rfl)|(show logOk _ _=true;kernel_rfl)|exact True.intro|exact Or.inr rfl|exact Or.inl rfl
    | exact rfl
    | skip
theorem xk155:FOk Tryz.prog T 155 (spMk2 [.i .i64,.i .i64,.i .i64,.s,.l 33,.l 9,.l 91] vStr):=by
  refine fok (env:=envL []) (N:=8) tabT envL_nil mixed Tryz.func155 rfl Tryz.call155 Tryz.ntmps155 ?_
  rintro args ⟨n,m,rfl⟩ hwf
  refine ⟨by simp,?_⟩
  clear hwf
  rw [Tryz.results155]
  repeat' first
    | (refine And.intro ?_ ?_)
    | (intro h;simp only [reduceCtorEq] at h;done)
    | (intro h;rw [h])
    | (intro h)
  all_goals first
    | (show lowEdges _=true;kernel_rfl)|(show logOk _ _=true;kernel_rfl)|exact True.intro|exact Or.inr rfl|exact Or.inl rfl
    | exact rfl
    | skip
theorem xk151:FOk Tryz.prog T 151 (spTake):=by
  refine fokB (env:=envL [(225,spHasP)]) (N:=27) tabT (envL_cons xk225 envL_nil) mixed Tryz.func151 rfl Tryz.call151 Tryz.ntmps151 ?_
  rintro cs args ⟨s,w,k,b,hp,hw,he⟩ hwf
  simp only [List.cons.injEq,SV.tup.injEq,Prod.mk.injEq,true_and,and_true] at he
  obtain ⟨rfl,rfl⟩:=he
  obtain ⟨hz,h0,h1⟩:=id hp
  obtain ⟨k,rfl⟩:=Int.eq_ofNat_of_zero_le h0
  have hk:k≤s.size:=by omega
  have hy:=posK hp (w.size:Int) (by omega) (by omega)
  refine ⟨by simp,?_⟩
  clear hwf
  rw [Tryz.results151]
  repeat' first
    | (refine And.intro ?_ ?_)
    | (intro h;simp only [reduceCtorEq] at h;done)
    | (intro h;rw [h])
    | (intro h)
  all_goals first
    | (show lowEdges _=true;kernel_rfl)|(show logOk _ _=true;kernel_rfl)|exact True.intro|exact Or.inr rfl|exact Or.inl rfl
    | with_reducible exact Int.natCast_nonneg _
    | (show (k:Int)≤(s.size:Int);omega)
    | exact Int.le_refl _
    | exact ⟨_,_,rfl⟩
    | (have hz:(!stB s (k:Int) w)=true:=by rw [← pre_st hk];assumption
       first
         | exact resB (of_notT hz).symm
         | exact updR (tk_no hz) rfl)
    | (have hz:(!stB s (k:Int) w)=false:=by rw [← pre_st hk];assumption
       first
         | exact resB (of_notF hz).symm
         | exact updR (hy.trans (tk_yes hz)) rfl)
    | skip
theorem xk154:FOk Tryz.prog T 154 (spRd [.i .i64,.i .i64,.i .i64,.s,.l 33,.l 9,.l 91] (fun _ _ _=>True) numIR):=by
  refine fokB (env:=envL [(227,(spPrs (-999999999999) 999999999999)),(228,(spMk1 [.i .i64,.i .i64,.i .i64,.s,.l 33,.l 9,.l 91] vNum))]) (N:=89) tabT (envL_cons ok227 (envL_cons xk228 envL_nil)) mixed Tryz.func154 rfl Tryz.call154 Tryz.ntmps154 ?_
  rintro cs args ⟨s,k,b,hp,_,he⟩ hwf
  simp only [List.cons.injEq,SV.tup.injEq,Prod.mk.injEq,true_and,and_true] at he
  obtain ⟨rfl,rfl⟩:=he
  obtain ⟨hz,h0,h1⟩:=id hp
  obtain ⟨k,rfl⟩:=Int.eq_ofNat_of_zero_le h0
  have hk:k≤s.size:=by omega
  refine ⟨by simp,?_⟩
  clear hwf
  rw [Tryz.results154]
  repeat' first
    | (refine And.intro ?_ ?_)
    | (intro h;simp only [reduceCtorEq] at h;done)
    | (intro h;rw [h])
    | (intro h)
  all_goals first
    | (show lowEdges _=true;kernel_rfl)|(show logOk _ _=true;kernel_rfl)|exact True.intro|exact Or.inr rfl|exact Or.inl rfl
    | skip
  refine awp_loop (Q:=_) [0,2,3] [89,2] (fun m st=>∃ j:Nat,st=([.ptr 89 0 0,.ptr 2 1 0,iArg (k:Int)],[(0,[.val false [.s s],.val false [.i .i64 (j:Int)],.val false [.b b]]),(1,[.val false [.i .i64 0],.val false [.i .i64 0],.val false [.i .i64 0],.val false [.s ByteArray.empty],.val false [.sl true 33 []],.val false [.sl true 9 []],.val false [.sl true 91 []]])])∧k≤j∧j≤s.size∧runB mdB s j=numIE s (k:Int)∧m=s.size - j) ?_ ?_
  · exact ⟨rfl,s.size - k,k,rfl,Nat.le_refl _,hk,rfl,rfl⟩
  rintro m st ⟨j,rfl,j0,j1,jr,rfl⟩
  repeat' first
    | (refine And.intro ?_ ?_)
    | (intro h;simp only [reduceCtorEq] at h;done)
    | (intro h;rw [h])
    | (intro h)
  all_goals first
    | (show lowEdges _=true;kernel_rfl)|(show logOk _ _=true;kernel_rfl)|exact True.intro|exact Or.inr rfl|exact Or.inl rfl
    | with_reducible exact Int.natCast_nonneg _
    | with_reducible exact of_decide_eq_true (by with_reducible assumption)
    | (show Alive _ _;exact rfl)
    | (have hj:j < s.size:=ltN (by with_reducible assumption)
       have hm:mdB (bAt s j)=true:=by
         first
           | exact md_1 (by assumption)
           | exact md_2 (by assumption) (by assumption)
       refine ⟨s.size - (j+1),by omega,j+1,?_,by omega,by omega,(runB_hit hj hm).symm.trans jr,rfl⟩
       exact congrArg (fun z:Int=>(([.ptr 89 0 0,.ptr 2 1 0,iArg (k:Int)],[(0,[.val false [.s s],.val false [.i .i64 z],.val false [.b b]]),(1,[.val false [.i .i64 0],.val false [.i .i64 0],.val false [.i .i64 0],.val false [.s ByteArray.empty],.val false [.sl true 33 []],.val false [.sl true 9 []],.val false [.sl true 91 []]])]):Snap)) (wrapN hj (by simp only [maxLen];omega)))
    | (have je:j=numIE s (k:Int):=by
         rw [← jr]
         first
           | exact (runB_end (nltN (by with_reducible assumption))).symm
           | exact (runB_miss (ltN (by with_reducible assumption)) (md_3 (by assumption) (by assumption))).symm
           | exact (runB_miss (ltN (by with_reducible assumption)) (md_4 (by assumption) (by assumption))).symm
       subst je
       first
         | (show (k:Int)≤(numIE s (k:Int):Int);omega)
         | (show (numIE s (k:Int):Int)≤(s.size:Int);omega)
         | (refine ⟨_,?_,rfl⟩;show (s.extract k (numIE s (k:Int))).size≤_;rw [ByteArray.size_extract];omega)
         | exact ⟨_,rfl⟩
         | exact rfl
         | (refine updR rfl ?_;show _=(b && (prsI s (k:Int)).2);rw [show b=true by assumption];rfl)
         | (refine updR rfl ?_;show _=(b && (prsI s (k:Int)).2);rw [show b=false by assumption];rfl))
    | skip
end Go.Proofs.YtppgalpldaibhaaGreatDoor.Ab
