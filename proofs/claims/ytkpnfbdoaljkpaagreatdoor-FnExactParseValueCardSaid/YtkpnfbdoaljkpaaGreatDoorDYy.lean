/- The program's reading of values as a whole, exactly: printed by a program of this -/
import Derived.Test.YtkpnfbdoaljkpaaGreatDoorDYx
import Derived.Test.YtkpnfbdoaljkpaaGreatDoorDYv
namespace Go.Proofs.YtkpnfbdoaljkpaaGreatDoor.Ab
open Go.RowKit
set_option linter.unusedVariables false
set_option linter.unusedSimpArgs false
set_option maxRecDepth 100000
set_option maxHeartbeats 2000000
theorem xk108:FOk Tryz.prog T 108 spErrI:=by
  refine fok (env:=envL [(154,(spSTI idxT))]) (N:=7) tabT (envL_cons xk154 envL_nil) mixed Tryz.func108 rfl Tryz.call108 Tryz.ntmps108 ?_
  rintro args ⟨t,rfl⟩ hwf
  refine ⟨by simp,?_⟩
  clear hwf
  rw [Tryz.results108]
  repeat' first
    | (refine And.intro ?_ ?_)
    | (intro h;simp only [reduceCtorEq] at h;done)
    | (intro h;rw [h])
    | (intro h)
  all_goals first
    | (show lowEdges _=true;kernel_rfl)|(show logOk _ _=true;kernel_rfl)|exact True.intro|exact Or.inr rfl|exact Or.inl rfl
    | exact rfl
    | exact ⟨_,_,rfl⟩
    | exact resI (errI_w t)
    | skip
theorem wf_whole {s:ByteArray} (hs:s.size≤1048576):WfRow T cV (wholeI s).1:=by
  have hp:∀ k:Int,0≤k→k≤s.size→PosIn s k:=fun k h0 h=>⟨hs,h0,h⟩
  unfold wholeI
  split
  · refine wfErr ?_
    rw [errI_eq];exact errC_in _
  split
  · exact wfStr (wf_int (wf_num _ _ _)) (wf_int (wf_num _ _ _))
  split
  · rename_i hb
    have hb:=stB_le hb
    have e:(TBO.size:Int)=6:=rfl
    have p6:PosIn s 6:=hp 6 (by decide) (by omega)
    have pb:=(val_in (b:=true) 0 p6).andK (valI s 0 6 true).2.2 COMMA
    have w2:=wf_val hs 2 (by decide) _ (andB s (valI s 0 6 true).2.1 (valI s 0 6 true).2.2 COMMA) pb.2.1 pb.2.2
    refine wfTbl (val0_t p6) (w2.rows (j:=4) rfl).len fun r hr=>wf_lst w2 hr
  · exact wf_val hs 3 (by decide) 0 true (Int.le_refl _) (Int.natCast_nonneg _)
end Go.Proofs.YtkpnfbdoaljkpaaGreatDoor.Ab
