/- Functions that return some bool or number, and small exact ones: printed by a program of this claim. -/
import Derived.Test.YtppgalpldaibhaaGreatDoorDPB
namespace Go.Proofs.YtppgalpldaibhaaGreatDoor.Ab
open Go.RowKit
set_option linter.unusedVariables false
set_option linter.unusedSimpArgs false
set_option maxRecDepth 100000
set_option maxHeartbeats 1000000
theorem ok84:FOk Tryz.prog T 84 spIn:=by
  refine fok (env:=envL []) (N:=15) tabT envL_nil mixed Tryz.func84 rfl Tryz.call84 Tryz.ntmps84 ?_
  rintro args ⟨x,lo,hi,rfl⟩ hwf
  refine ⟨by simp,?_⟩
  rw [Tryz.results84]
  repeat' first
    | (refine And.intro ?_ ?_)
    | (intro h;cases h)
    | (intro h;rw [h])
    | (intro h)
  all_goals first
    | (show lowEdges _=true;kernel_rfl)|(show logOk _ _=true;kernel_rfl)|exact True.intro|exact rfl|exact Or.inr rfl|exact Or.inl rfl
    | exact ⟨_,rfl⟩
    | exact ⟨_,_,_,rfl⟩
    | (refine resB ?_;simp_all [inR];done)
    | (refine resB ?_;simp_all [inR];omega)
theorem ok80:FOk Tryz.prog T 80 spNum:=by
  refine fok (env:=envL [(84,spIn)]) (N:=5) tabT (envL_cons ok84 envL_nil) mixed Tryz.func80 rfl Tryz.call80 Tryz.ntmps80 ?_
  rintro args ⟨x,rfl⟩ hwf
  refine ⟨by simp,?_⟩
  rw [Tryz.results80]
  repeat' first
    | (refine And.intro ?_ ?_)
    | (intro h;cases h)
    | (intro h;rw [h])
    | (intro h)
  all_goals first
    | (show lowEdges _=true;kernel_rfl)|(show logOk _ _=true;kernel_rfl)|exact True.intro|exact rfl|exact Or.inr rfl|exact Or.inl rfl
    | exact ⟨_,rfl⟩
    | exact ⟨_,_,_,rfl⟩
    | rfl
theorem ok132:FOk Tryz.prog T 132 spIn:=by
  refine fok (env:=envL []) (N:=15) tabT envL_nil mixed Tryz.func132 rfl Tryz.call132 Tryz.ntmps132 ?_
  rintro args ⟨x,lo,hi,rfl⟩ hwf
  refine ⟨by simp,?_⟩
  rw [Tryz.results132]
  repeat' first
    | (refine And.intro ?_ ?_)
    | (intro h;cases h)
    | (intro h;rw [h])
    | (intro h)
  all_goals first
    | (show lowEdges _=true;kernel_rfl)|(show logOk _ _=true;kernel_rfl)|exact True.intro|exact rfl|exact Or.inr rfl|exact Or.inl rfl
    | exact ⟨_,rfl⟩
    | exact ⟨_,_,_,rfl⟩
    | (refine resB ?_;simp_all [inR];done)
    | (refine resB ?_;simp_all [inR];omega)
theorem ok145:FOk Tryz.prog T 145 spNum:=by
  refine fok (env:=envL [(132,spIn)]) (N:=5) tabT (envL_cons ok132 envL_nil) mixed Tryz.func145 rfl Tryz.call145 Tryz.ntmps145 ?_
  rintro args ⟨x,rfl⟩ hwf
  refine ⟨by simp,?_⟩
  rw [Tryz.results145]
  repeat' first
    | (refine And.intro ?_ ?_)
    | (intro h;cases h)
    | (intro h;rw [h])
    | (intro h)
  all_goals first
    | (show lowEdges _=true;kernel_rfl)|(show logOk _ _=true;kernel_rfl)|exact True.intro|exact rfl|exact Or.inr rfl|exact Or.inl rfl
    | exact ⟨_,rfl⟩
    | exact ⟨_,_,_,rfl⟩
    | rfl
end Go.Proofs.YtppgalpldaibhaaGreatDoor.Ab
