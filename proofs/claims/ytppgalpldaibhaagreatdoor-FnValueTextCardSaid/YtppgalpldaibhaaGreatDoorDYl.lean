/- The reference's readers of values, exactly: printed by a program of this claim. -/
import Derived.Test.YtppgalpldaibhaaGreatDoorDYi
import Derived.Test.YtppgalpldaibhaaGreatDoorDYj
import Derived.Test.YtppgalpldaibhaaGreatDoorDPb
namespace Go.Proofs.YtppgalpldaibhaaGreatDoor.Ab
open Go.RowKit
set_option linter.unusedVariables false
set_option linter.unusedSimpArgs false
set_option maxRecDepth 100000
set_option maxHeartbeats 2000000
theorem xk168:FOk Tryz.prog T 168 spStarts:=by
  refine fok (env:=envL []) (N:=25) tabT envL_nil mixed Tryz.func168 rfl Tryz.call168 Tryz.ntmps168 ?_
  rintro args ⟨s,w,k,hp,hw,rfl⟩ hwf
  have hx:IntKind.i64.wrap ((s.size:Int) - k)=(s.size:Int) - k:=by obtain ⟨a,b,d⟩:=hp;exact wr64 (by omega) (by omega)
  have hy:=posK hp (w.size:Int) (by omega) (by omega)
  refine ⟨by simp,?_⟩
  clear hwf
  rw [Tryz.results168]
  repeat' first
    | (refine And.intro ?_ ?_)
    | (intro h;simp only [reduceCtorEq] at h;done)
    | (intro h;rw [h])
    | (intro h)
  all_goals first
    | (show lowEdges _=true;kernel_rfl)|(show logOk _ _=true;kernel_rfl)|exact True.intro|exact Or.inr rfl|exact Or.inl rfl
    | exact resB (st_F hx (by assumption))
    | exact resB (st_T hx hy (by assumption))
    | (have h:=of_decide_eq_true (by assumption:decide (IntKind.i64.wrap ((s.size:Int) - k) ≥ (w.size:Int))=true);obtain ⟨a,b,d⟩:=hp;first|(show (0:Int)≤k;omega)|(show k≤IntKind.i64.wrap (k+(w.size:Int));omega)|(show IntKind.i64.wrap (k+(w.size:Int))≤(s.size:Int);omega))
    | skip
theorem xk177:FOk Tryz.prog T 177 (spMk1 [.i .i64,.i .i64,.i .i64,.s,.l 33,.l 9,.l 91] vNum):=by
  refine fok (env:=envL []) (N:=5) tabT envL_nil mixed Tryz.func177 rfl Tryz.call177 Tryz.ntmps177 ?_
  rintro args ⟨n,rfl⟩ hwf
  refine ⟨by simp,?_⟩
  clear hwf
  rw [Tryz.results177]
  repeat' first
    | (refine And.intro ?_ ?_)
    | (intro h;simp only [reduceCtorEq] at h;done)
    | (intro h;rw [h])
    | (intro h)
  all_goals first
    | (show lowEdges _=true;kernel_rfl)|(show logOk _ _=true;kernel_rfl)|exact True.intro|exact Or.inr rfl|exact Or.inl rfl
    | exact rfl
    | skip
theorem xk174:FOk Tryz.prog T 174 (spMk1 [.i .i64,.i .i64,.i .i64,.s,.l 33,.l 9,.l 91] vErr):=by
  refine fok (env:=envL []) (N:=5) tabT envL_nil mixed Tryz.func174 rfl Tryz.call174 Tryz.ntmps174 ?_
  rintro args ⟨n,rfl⟩ hwf
  refine ⟨by simp,?_⟩
  clear hwf
  rw [Tryz.results174]
  repeat' first
    | (refine And.intro ?_ ?_)
    | (intro h;simp only [reduceCtorEq] at h;done)
    | (intro h;rw [h])
    | (intro h)
  all_goals first
    | (show lowEdges _=true;kernel_rfl)|(show logOk _ _=true;kernel_rfl)|exact True.intro|exact Or.inr rfl|exact Or.inl rfl
    | exact rfl
    | skip
theorem xk170:FOk Tryz.prog T 170 (spMkT [.i .i64,.i .i64,.i .i64,.s,.l 33,.l 9,.l 91] vTxt):=by
  refine fok (env:=envL []) (N:=5) tabT envL_nil mixed Tryz.func170 rfl Tryz.call170 Tryz.ntmps170 ?_
  rintro args ⟨t,rfl⟩ hwf
  refine ⟨by simp,?_⟩
  clear hwf
  rw [Tryz.results170]
  repeat' first
    | (refine And.intro ?_ ?_)
    | (intro h;simp only [reduceCtorEq] at h;done)
    | (intro h;rw [h])
    | (intro h)
  all_goals first
    | (show lowEdges _=true;kernel_rfl)|(show logOk _ _=true;kernel_rfl)|exact True.intro|exact Or.inr rfl|exact Or.inl rfl
    | exact rfl
    | skip
theorem xk216:FOk Tryz.prog T 216 (spMk2 [.i .i64,.i .i64,.i .i64,.s,.l 33,.l 9,.l 91] vStr):=by
  refine fok (env:=envL []) (N:=8) tabT envL_nil mixed Tryz.func216 rfl Tryz.call216 Tryz.ntmps216 ?_
  rintro args ⟨n,m,rfl⟩ hwf
  refine ⟨by simp,?_⟩
  clear hwf
  rw [Tryz.results216]
  repeat' first
    | (refine And.intro ?_ ?_)
    | (intro h;simp only [reduceCtorEq] at h;done)
    | (intro h;rw [h])
    | (intro h)
  all_goals first
    | (show lowEdges _=true;kernel_rfl)|(show logOk _ _=true;kernel_rfl)|exact True.intro|exact Or.inr rfl|exact Or.inl rfl
    | exact rfl
    | skip
theorem xk176:FOk Tryz.prog T 176 spIntP:=by
  refine fok (env:=envL [(183,(spPrs (-999999999999) 999999999999))]) (N:=52) tabT (envL_cons ok183 envL_nil) mixed Tryz.func176 rfl Tryz.call176 Tryz.ntmps176 ?_
  rintro args ⟨s,k,hp,rfl⟩ hwf
  obtain ⟨hz,h0,h1⟩:=id hp
  obtain ⟨k,rfl⟩:=Int.eq_ofNat_of_zero_le h0
  have hk:k≤s.size:=by omega
  refine ⟨by simp,?_⟩
  clear hwf
  rw [Tryz.results176]
  repeat' first
    | (refine And.intro ?_ ?_)
    | (intro h;simp only [reduceCtorEq] at h;done)
    | (intro h;rw [h])
    | (intro h)
  all_goals first
    | (show lowEdges _=true;kernel_rfl)|(show logOk _ _=true;kernel_rfl)|exact True.intro|exact Or.inr rfl|exact Or.inl rfl
    | with_reducible exact Int.natCast_nonneg _
    | with_reducible exact of_decide_eq_true (by with_reducible assumption)
    | skip
  all_goals (
    refine awp_loop (Q:=_) [0,1,6] [] (fun m st=>∃ j:Nat,st=([sArg s,iArg (k:Int),iArg (j:Int)],[])∧k≤j∧j≤s.size∧runB digB s j=numE s k∧m=s.size - j) ?_ ?_
    · first
        | (have hlt:=ltN (i:=k) (n:=s.size) (by with_reducible assumption)
           have h45:=(by assumption:(bAt s k == 45)=true)
           refine ⟨rfl,s.size - (k+1),k+1,?_,by omega,by omega,by unfold numE;rw [sgn_y hlt h45],rfl⟩
           exact congrArg (fun z:Int=>(([sArg s,iArg (k:Int),iArg z],[]):Snap)) (posK hp 1 (by decide) (by decide)))
        | exact ⟨rfl,s.size - k,k,rfl,Nat.le_refl _,hk,by unfold numE;rw [sgn_n2 (by assumption)],rfl⟩
        | exact ⟨rfl,s.size - k,k,rfl,Nat.le_refl _,hk,by unfold numE;rw [sgn_n1 (nltN (by with_reducible assumption))],rfl⟩
    rintro m st ⟨j,rfl,j0,j1,jr,rfl⟩
    repeat' first
      | (refine And.intro ?_ ?_)
      | (intro h;simp only [reduceCtorEq] at h;done)
      | (intro h;rw [h])
      | (intro h)
    all_goals first
      | (show lowEdges _=true;kernel_rfl)|(show logOk _ _=true;kernel_rfl)|exact True.intro|exact Or.inr rfl|exact Or.inl rfl
      | with_reducible exact Int.natCast_nonneg _
      | with_reducible exact of_decide_eq_true (by with_reducible assumption)
      | (show Alive _ _;exact rfl)
      | (have hj:j < s.size:=ltN (by with_reducible assumption)
         refine ⟨s.size - (j+1),by omega,j+1,?_,by omega,by omega,(runB_hit hj (dig_y (by assumption) (by assumption))).symm.trans jr,rfl⟩
         exact congrArg (fun z:Int=>(([sArg s,iArg (k:Int),iArg z],[]):Snap)) (wrapN hj (by simp only [maxLen];omega)))
      | (have je:j=numE s k:=by
           rw [← jr]
           first
             | exact (runB_end (nltN (by with_reducible assumption))).symm
             | exact (runB_miss (ltN (by with_reducible assumption)) (dig_n1 (by assumption))).symm
             | exact (runB_miss (ltN (by with_reducible assumption)) (dig_n2 (by assumption))).symm
         subst je
         first
           | (show (k:Int)≤(numE s k:Int);omega)
           | (show (numE s k:Int)≤(s.size:Int);omega)
           | (refine ⟨_,?_,rfl⟩;show (s.extract k (numE s k)).size≤_;rw [ByteArray.size_extract];omega)
           | exact resII (int_no (s:=s) (k:=(k:Int)) (by assumption)) rfl rfl
           | exact resII (int_yes (s:=s) (k:=(k:Int)) (by assumption)) rfl rfl)
      | skip)
theorem xk169:FOk Tryz.prog T 169 spQuoP:=by
  refine fok (env:=envL [(168,spStarts)]) (N:=36) tabT (envL_cons xk168 envL_nil) mixed Tryz.func169 rfl Tryz.call169 Tryz.ntmps169 ?_
  rintro args ⟨s,k,hp,rfl⟩ hwf
  obtain ⟨hz,h0,h1⟩:=id hp
  obtain ⟨k,rfl⟩:=Int.eq_ofNat_of_zero_le h0
  have hk:k≤s.size:=by omega
  refine ⟨by simp,?_⟩
  clear hwf
  rw [Tryz.results169]
  repeat' first
    | (refine And.intro ?_ ?_)
    | (intro h;simp only [reduceCtorEq] at h;done)
    | (intro h;rw [h])
    | (intro h)
  all_goals first
    | (show lowEdges _=true;kernel_rfl)|(show logOk _ _=true;kernel_rfl)|exact True.intro|exact Or.inr rfl|exact Or.inl rfl
    | exact ⟨_,_,_,hp,by decide,rfl⟩
    | exact resTI (quo_1 (by assumption)) rfl rfl
    | skip
  have hq:=by assumption
  have hq:(!stB s (k:Int) QUO)=false:=hq
  have hb:=stB_le (of_notF hq)
  have hq1:(QUO.size:Int)=1:=rfl
  refine awp_loop (Q:=_) [0,1,6] [] (fun m st=>∃ j:Nat,st=([sArg s,iArg (k:Int),iArg (j:Int)],[])∧k+1≤j∧j≤s.size∧runB (fun b=>b != 34) s j=quoE s (k:Int)∧m=s.size - j) ?_ ?_
  · refine ⟨rfl,s.size - (k+1),k+1,?_,by omega,by omega,rfl,rfl⟩
    exact congrArg (fun z:Int=>(([sArg s,iArg (k:Int),iArg z],[]):Snap)) (posK hp 1 (by decide) (by decide))
  rintro m st ⟨j,rfl,j0,j1,jr,rfl⟩
  repeat' first
    | (refine And.intro ?_ ?_)
    | (intro h;simp only [reduceCtorEq] at h;done)
    | (intro h;rw [h])
    | (intro h)
  all_goals first
    | (show lowEdges _=true;kernel_rfl)|(show logOk _ _=true;kernel_rfl)|exact True.intro|exact Or.inr rfl|exact Or.inl rfl
    | with_reducible exact Int.natCast_nonneg _
    | with_reducible exact of_decide_eq_true (by with_reducible assumption)
    | (show Alive _ _;exact rfl)
    | (have hj:j < s.size:=ltN (by with_reducible assumption)
       refine ⟨s.size - (j+1),by omega,j+1,?_,by omega,by omega,(runB_hit (P:=fun b=>b != 34) hj (by assumption:(bAt s j != 34)=true)).symm.trans jr,rfl⟩
       exact congrArg (fun z:Int=>(([sArg s,iArg (k:Int),iArg z],[]):Snap)) (wrapN hj (by simp only [maxLen];omega)))
    | (have je:j=quoE s (k:Int):=by
         rw [← jr]
         first
           | exact (runB_end (nltN (by with_reducible assumption))).symm
           | exact (runB_miss (P:=fun b=>b != 34) (ltN (by with_reducible assumption)) (by assumption:(bAt s j != 34)=false)).symm
       subst je
       have hw:=posK hp 1 (by decide) (by decide)
       have hw2:IntKind.i64.wrap ((quoE s (k:Int):Int)+1)=(quoE s (k:Int):Int)+1:=wr64 (by omega) (by omega)
       first
         | (rw [hw];omega)
         | (show (quoE s (k:Int):Int)≤(s.size:Int);omega)
         | exact resTI (quo_2 (k:=(k:Int)) hq (by assumption)) rfl rfl
         | (refine resTI (quo_3 (k:=(k:Int)) hq (by assumption)) ?_ hw2;rw [hw];rfl))
    | skip
theorem xk172:FOk Tryz.prog T 172 (spVP [.i .i64,.i .i64,.i .i64,.s,.l 33,.l 9,.l 91] (fun _ _=>True) strP):=by
  refine fok (env:=envL [(176,spIntP),(168,spStarts),(216,(spMk2 [.i .i64,.i .i64,.i .i64,.s,.l 33,.l 9,.l 91] vStr))]) (N:=46) tabT (envL_cons xk176 (envL_cons xk168 (envL_cons xk216 envL_nil))) mixed Tryz.func172 rfl Tryz.call172 Tryz.ntmps172 ?_
  rintro args ⟨s,k,hp,_,rfl⟩ hwf
  refine ⟨by simp,?_⟩
  clear hwf
  rw [Tryz.results172]
  repeat' first
    | (refine And.intro ?_ ?_)
    | (intro h;simp only [reduceCtorEq] at h;done)
    | (intro h;rw [h])
    | (intro h)
  all_goals first
    | (show lowEdges _=true;kernel_rfl)|(show logOk _ _=true;kernel_rfl)|exact True.intro|exact Or.inr rfl|exact Or.inl rfl
    | exact ⟨_,_,hp,rfl⟩
    | exact ⟨_,_,rfl⟩
    | exact resV (strP_1 (by assumption)) rfl rfl
    | exact resV (strP_2 (by assumption) (by assumption)) rfl rfl
    | exact ⟨_,_,_,int_in hp (by assumption),by decide,rfl⟩
    | (have h0:=(by assumption:decide ((intP s k).2 < 0)=false)
       have h1:=(by assumption:(!stB s (intP s k).2 COMMA)=false)
       have hc:=posC (int_in hp h0) (w:=COMMA) (by decide) (of_notF h1)
       have hw:IntKind.i64.wrap ((intP s k).2+2)=(intP s k).2+2:=hc.1
       have hp2:PosIn s (IntKind.i64.wrap ((intP s k).2+2)):=by rw [hw];exact hc.2
       first
         | exact ⟨_,_,hp2,rfl⟩
         | exact ⟨_,_,_,int_in hp2 (by assumption),by decide,rfl⟩
         | exact resV (strP_3 hw h0 h1 (by assumption)) rfl rfl
         | exact resV (strP_4 hw h0 h1 (by assumption) (by assumption)) rfl rfl
         | (have h3:=(by assumption:decide ((intP s (IntKind.i64.wrap ((intP s k).2+2))).2 < 0)=false)
            have h4:=(by assumption:(!stB s (intP s (IntKind.i64.wrap ((intP s k).2+2))).2 RPA)=false)
            exact resV (strP_5 hw h0 h1 h3 h4) rfl (posC (int_in hp2 h3) (w:=RPA) (by decide) (of_notF h4)).1))
    | skip
theorem xk175:FOk Tryz.prog T 175 spErrC:=by
  refine fok (env:=envL [(231,spErrs),(235,(spSTI idxT)),(130,spMax)]) (N:=9) tabT (envL_cons ok231 (envL_cons xk235 (envL_cons xk130 envL_nil))) mixed Tryz.func175 rfl Tryz.call175 Tryz.ntmps175 ?_
  rintro args ⟨t,rfl⟩ hwf
  refine ⟨by simp,?_⟩
  clear hwf
  rw [Tryz.results175]
  repeat' first
    | (refine And.intro ?_ ?_)
    | (intro h;simp only [reduceCtorEq] at h;done)
    | (intro h;rw [h])
    | (intro h)
  all_goals first
    | (show lowEdges _=true;kernel_rfl)|(show logOk _ _=true;kernel_rfl)|exact True.intro|exact Or.inr rfl|exact Or.inl rfl
    | exact rfl
    | exact ⟨_,_,rfl⟩
    | exact resI (err_0 (by assumption))
    | exact resI (err_1 (by assumption))
    | skip
end Go.Proofs.YtppgalpldaibhaaGreatDoor.Ab
