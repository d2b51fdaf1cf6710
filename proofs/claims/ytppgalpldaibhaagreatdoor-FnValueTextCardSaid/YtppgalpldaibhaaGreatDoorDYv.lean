/- The program's readers of values, exactly: printed by a program of this claim. The program's reading of values: what each way hands back. No program in sight. -/
import Derived.Test.YtppgalpldaibhaaGreatDoorDYo
import Derived.Test.YtppgalpldaibhaaGreatDoorDYu
namespace Go.Proofs.YtppgalpldaibhaaGreatDoor.Ab
open Go.RowKit
set_option linter.unusedVariables false
set_option linter.unusedSimpArgs false
set_option maxRecDepth 100000
set_option maxHeartbeats 2000000
theorem xk225:FOk Tryz.prog T 225 spHasP:=hasP_ok Tryz.call225 Tryz.strings_HasPrefix
theorem xk229:FOk Tryz.prog T 229 spIdxB:=idxB_ok Tryz.call229 Tryz.strings_IndexByte
theorem xk228:FOk Tryz.prog T 228 (spMk1 [.i .i64,.i .i64,.i .i64,.s,.l 33,.l 9,.l 91] vNum):=by
  refine fok (env:=envL []) (N:=5) tabT envL_nil mixed Tryz.func228 rfl Tryz.call228 Tryz.ntmps228 ?_
  rintro args ⟨n,rfl⟩ hwf
  refine ⟨by simp,?_⟩
  clear hwf
  rw [Tryz.results228]
  repeat' first
    | (refine And.intro ?_ ?_)
    | (intro h;simp only [reduceCtorEq] at h;done)
    | (intro h;rw [h])
    | (intro h)
  all_goals first
    | (show lowEdges _=true;kernel_rfl)|(show logOk _ _=true;kernel_rfl)|exact True.intro|exact Or.inr rfl|exact Or.inl rfl
    | exact rfl
    | skip
theorem xk152:FOk Tryz.prog T 152 (spMk1 [.i .i64,.i .i64,.i .i64,.s,.l 33,.l 9,.l 91] vErr):=by
  refine fok (env:=envL []) (N:=5) tabT envL_nil mixed Tryz.func152 rfl Tryz.call152 Tryz.ntmps152 ?_
  rintro args ⟨n,rfl⟩ hwf
  refine ⟨by simp,?_⟩
  clear hwf
  rw [Tryz.results152]
  repeat' first
    | (refine And.intro ?_ ?_)
    | (intro h;simp only [reduceCtorEq] at h;done)
    | (intro h;rw [h])
    | (intro h)
  all_goals first
    | (show lowEdges _=true;kernel_rfl)|(show logOk _ _=true;kernel_rfl)|exact True.intro|exact Or.inr rfl|exact Or.inl rfl
    | exact rfl
    | skip
theorem xk230:FOk Tryz.prog T 230 (spMkT [.i .i64,.i .i64,.i .i64,.s,.l 33,.l 9,.l 91] vTxt):=by
  refine fok (env:=envL []) (N:=5) tabT envL_nil mixed Tryz.func230 rfl Tryz.call230 Tryz.ntmps230 ?_
  rintro args ⟨t,rfl⟩ hwf
  refine ⟨by simp,?_⟩
  clear hwf
  rw [Tryz.results230]
  repeat' first
    | (refine And.intro ?_ ?_)
    | (intro h;simp only [reduceCtorEq] at h;done)
    | (intro h;rw [h])
    | (intro h)
  all_goals first
    | (show lowEdges _=true;kernel_rfl)|(show logOk _ _=true;kernel_rfl)|exact True.intro|exact Or.inr rfl|exact Or.inl rfl
    | exact rfl
    | skip
theorem xk155:FOk Tryz.prog T 155 (spMk2 [.i .i64,.i .i64,.i .i64,.s,.l 33,.l 9,.l 91] vStr):=by
  refine fok (env:=envL []) (N:=8) tabT envL_nil mixed Tryz.func155 rfl Tryz.call155 Tryz.ntmps155 ?_
  rintro args ⟨n,m,rfl⟩ hwf
  refine ⟨by simp,?_⟩
  clear hwf
  rw [Tryz.results155]
  repeat' first
    | (refine And.intro ?_ ?_)
    | (intro h;simp only [reduceCtorEq] at h;done)
    | (intro h;rw [h])
    | (intro h)
  all_goals first
    | (show lowEdges _=true;kernel_rfl)|(show logOk _ _=true;kernel_rfl)|exact True.intro|exact Or.inr rfl|exact Or.inl rfl
    | exact rfl
    | skip
theorem xk151:FOk Tryz.prog T 151 (spTake):=by
  refine fokB (env:=envL [(225,spHasP)]) (N:=27) tabT (envL_cons xk225 envL_nil) mixed Tryz.func151 rfl Tryz.call151 Tryz.ntmps151 ?_
  rintro cs args ⟨s,w,k,b,hp,hw,he⟩ hwf
  simp only [List.cons.injEq,SV.tup.injEq,Prod.mk.injEq,true_and,and_true] at he
  obtain ⟨rfl,rfl⟩:=he
  obtain ⟨hz,h0,h1⟩:=id hp
  obtain ⟨k,rfl⟩:=Int.eq_ofNat_of_zero_le h0
  have hk:k≤s.size:=by omega
  have hy:=posK hp (w.size:Int) (by omega) (by omega)
  refine ⟨by simp,?_⟩
  clear hwf
  rw [Tryz.results151]
  repeat' first
    | (refine And.intro ?_ ?_)
    | (intro h;simp only [reduceCtorEq] at h;done)
    | (intro h;rw [h])
    | (intro h)
  all_goals first
    | (show lowEdges _=true;kernel_rfl)|(show logOk _ _=true;kernel_rfl)|exact True.intro|exact Or.inr rfl|exact Or.inl rfl
    | with_reducible exact Int.natCast_nonneg _
    | (show (k:Int)≤(s.size:Int);omega)
    | exact Int.le_refl _
    | exact ⟨_,_,rfl⟩
    | (have hz:(!stB s (k:Int) w)=true:=by rw [← pre_st hk];assumption
       first
         | exact resB (of_notT hz).symm
         | exact updR (tk_no hz) rfl)
    | (have hz:(!stB s (k:Int) w)=false:=by rw [← pre_st hk];assumption
       first
         | exact resB (of_notF hz).symm
         | exact updR (hy.trans (tk_yes hz)) rfl)
    | skip
theorem xk154:FOk Tryz.prog T 154 (spRd [.i .i64,.i .i64,.i .i64,.s,.l 33,.l 9,.l 91] (fun _ _ _=>True) numIR):=by
  refine fokB (env:=envL [(227,(spPrs (-999999999999) 999999999999)),(228,(spMk1 [.i .i64,.i .i64,.i .i64,.s,.l 33,.l 9,.l 91] vNum))]) (N:=89) tabT (envL_cons ok227 (envL_cons xk228 envL_nil)) mixed Tryz.func154 rfl Tryz.call154 Tryz.ntmps154 ?_
  rintro cs args ⟨s,k,b,hp,_,he⟩ hwf
  simp only [List.cons.injEq,SV.tup.injEq,Prod.mk.injEq,true_and,and_true] at he
  obtain ⟨rfl,rfl⟩:=he
  obtain ⟨hz,h0,h1⟩:=id hp
  obtain ⟨k,rfl⟩:=Int.eq_ofNat_of_zero_le h0
  have hk:k≤s.size:=by omega
  refine ⟨by simp,?_⟩
  clear hwf
  rw [Tryz.results154]
  repeat' first
    | (refine And.intro ?_ ?_)
    | (intro h;simp only [reduceCtorEq] at h;done)
    | (intro h;rw [h])
    | (intro h)
  all_goals first
    | (show lowEdges _=true;kernel_rfl)|(show logOk _ _=true;kernel_rfl)|exact True.intro|exact Or.inr rfl|exact Or.inl rfl
    | skip
  refine awp_loop (Q:=_) [0,2,3] [89,2] (fun m st=>∃ j:Nat,st=([.ptr 89 0 0,.ptr 2 1 0,iArg (k:Int)],[(0,[.val false [.s s],.val false [.i .i64 (j:Int)],.val false [.b b]]),(1,[.val false [.i .i64 0],.val false [.i .i64 0],.val false [.i .i64 0],.val false [.s ByteArray.empty],.val false [.sl true 33 []],.val false [.sl true 9 []],.val false [.sl true 91 []]])])∧k≤j∧j≤s.size∧runB mdB s j=numIE s (k:Int)∧m=s.size - j) ?_ ?_
  · exact ⟨rfl,s.size - k,k,rfl,Nat.le_refl _,hk,rfl,rfl⟩
  rintro m st ⟨j,rfl,j0,j1,jr,rfl⟩
  repeat' first
    | (refine And.intro ?_ ?_)
    | (intro h;simp only [reduceCtorEq] at h;done)
    | (intro h;rw [h])
    | (intro h)
  all_goals first
    | (show lowEdges _=true;kernel_rfl)|(show logOk _ _=true;kernel_rfl)|exact True.intro|exact Or.inr rfl|exact Or.inl rfl
    | with_reducible exact Int.natCast_nonneg _
    | with_reducible exact of_decide_eq_true (by with_reducible assumption)
    | (show Alive _ _;exact rfl)
    | (have hj:j < s.size:=ltN (by with_reducible assumption)
       have hm:mdB (bAt s j)=true:=by
         first
           | exact md_1 (by assumption)
           | exact md_2 (by assumption) (by assumption)
       refine ⟨s.size - (j+1),by omega,j+1,?_,by omega,by omega,(runB_hit hj hm).symm.trans jr,rfl⟩
       exact congrArg (fun z:Int=>(([.ptr 89 0 0,.ptr 2 1 0,iArg (k:Int)],[(0,[.val false [.s s],.val false [.i .i64 z],.val false [.b b]]),(1,[.val false [.i .i64 0],.val false [.i .i64 0],.val false [.i .i64 0],.val false [.s ByteArray.empty],.val false [.sl true 33 []],.val false [.sl true 9 []],.val false [.sl true 91 []]])]):Snap)) (wrapN hj (by simp only [maxLen];omega)))
    | (have je:j=numIE s (k:Int):=by
         rw [← jr]
         first
           | exact (runB_end (nltN (by with_reducible assumption))).symm
           | exact (runB_miss (ltN (by with_reducible assumption)) (md_3 (by assumption) (by assumption))).symm
           | exact (runB_miss (ltN (by with_reducible assumption)) (md_4 (by assumption) (by assumption))).symm
       subst je
       first
         | (show (k:Int)≤(numIE s (k:Int):Int);omega)
         | (show (numIE s (k:Int):Int)≤(s.size:Int);omega)
         | (refine ⟨_,?_,rfl⟩;show (s.extract k (numIE s (k:Int))).size≤_;rw [ByteArray.size_extract];omega)
         | exact ⟨_,rfl⟩
         | exact rfl
         | (refine updR rfl ?_;show _=(b && (prsI s (k:Int)).2);rw [show b=true by assumption];rfl)
         | (refine updR rfl ?_;show _=(b && (prsI s (k:Int)).2);rw [show b=false by assumption];rfl))
    | skip
end Go.Proofs.YtppgalpldaibhaaGreatDoor.Ab
namespace Go.Proofs.YtppgalpldaibhaaGreatDoor.Ab
open Go.RowKit
set_option linter.unusedVariables false
theorem resR {cts:List CT} {p q:Rd3} {cs:List CV} (h:q=p) (hc:cs=rowC cts p.1):cs=rowC cts q.1:=by subst h;exact hc
theorem updRr {s:ByteArray} {p q:Rd3} {k:Int} {b:Bool} (h:q=p) (hk:k=p.2.1) (hb:b=p.2.2):[CV.s s,CV.i .i64 k,CV.b b]=rdrC s q.2.1 q.2.2:=by subst h hk hb;rfl
theorem tk_quo {s:ByteArray} {k:Nat} (h:stB s (k:Int) QUO=true):tkK s (k:Int) QUO=((k+1:Nat):Int)∧k+1≤s.size:=by
  have:=stB_le h
  have e:(QUO.size:Int)=1:=rfl
  unfold tkK
  rw [if_pos h]
  omega
theorem quo_neg {s:ByteArray} {k:Nat} {x:Int} (hq:stB s (k:Int) QUO=true) (hx:x=(if quoE s (k:Int)=s.size then -1 else (quoE s (k:Int):Int) - (k+1))) (h:decide (x < 0)=true):(quoP s (k:Int)).2 < 0:=by
  have h:=of_decide_eq_true h
  have hle:k+1≤quoE s (k:Int):=runB_ge
  unfold quoP
  rw [if_pos hq]
  by_cases he:quoE s (k:Int)=s.size
  · rw [if_pos he];decide
  · rw [if_neg he] at hx;omega
theorem quo_pos' {s:ByteArray} {k:Nat} {x:Int} (hq:stB s (k:Int) QUO=true) (hx:x=(if quoE s (k:Int)=s.size then -1 else (quoE s (k:Int):Int) - (k+1))) (h:decide (x < 0)=false) :
    quoP s (k:Int)=(s.extract (k+1) (quoE s (k:Int)),(quoE s (k:Int):Int)+1)∧x=(quoE s (k:Int):Int) - (k+1)∧k+1≤quoE s (k:Int)∧quoE s (k:Int) < s.size:=by
  have h:=of_decide_eq_false h
  have hle:k+1≤quoE s (k:Int):=runB_ge
  have hb:=stB_le hq
  have e:(QUO.size:Int)=1:=rfl
  have hle2:quoE s (k:Int)≤s.size:=runB_le (by show (k:Int).toNat+1≤s.size;omega)
  by_cases he:quoE s (k:Int)=s.size
  · rw [if_pos he] at hx;omega
  · rw [if_neg he] at hx
    refine ⟨?_,hx,hle,by omega⟩
    unfold quoP
    rw [if_pos hq,if_neg he]
    rfl
theorem itI_stop {val:Int→Bool→Rd3} {s:ByteArray}:∀ (m:Nat) (k:Int) (out:List (List D)),itemsI val s m k false out=(out,k,false)
  | 0,_,_=>rfl
  | m+1,_,_=>rfl
theorem itI_1 {val:Int→Bool→Rd3} {s:ByteArray} {m:Nat} {k:Int} {out:List (List D)} (hs:stB s (val k true).2.1 RBR=true):itemsI val s (m+1) k true out=(out++[(val k true).1],(val k true).2.1+1,(val k true).2.2):=by
  rw [itemsI,if_neg (by decide),if_pos hs]
theorem itI_2 {val:Int→Bool→Rd3} {s:ByteArray} {m:Nat} {k:Int} {out:List (List D)} (hs:stB s (val k true).2.1 RBR=false):itemsI val s (m+1) k true out=itemsI val s m (andK s (val k true).2.1 (val k true).2.2 COMMA) (andB s (val k true).2.1 (val k true).2.2 COMMA) (out++[(val k true).1]):=by
  rw [itemsI,if_neg (by decide),if_neg (by rw [hs];decide)]
theorem tk_one {s w:ByteArray} {k:Int} (h:stB s k w=true):tkK s k w=k+(w.size:Int):=by unfold tkK;rw [if_pos h]
theorem tk_none {s w:ByteArray} {k:Int} (h:stB s k w=false):tkK s k w=k:=by unfold tkK;rw [if_neg (by rw [h];decide)]
theorem snapKBO {f:Int→Bool→List (List D)→Snap} {a a' : Int} {b b' : Bool} {r r' : List (List D)} (h:a=a') (h2:b=b') (h3:r=r'):f a b r=f a' b' r' := by rw [h,h2,h3]
end Go.Proofs.YtppgalpldaibhaaGreatDoor.Ab
