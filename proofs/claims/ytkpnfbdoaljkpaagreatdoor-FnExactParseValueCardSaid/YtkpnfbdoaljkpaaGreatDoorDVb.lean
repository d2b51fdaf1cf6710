/- Functions that return some bool or number, and small exact ones: printed by a program of -/
import Derived.Test.YtkpnfbdoaljkpaaGreatDoorDQa
namespace Go.Proofs.YtkpnfbdoaljkpaaGreatDoor.Ab
open Go.RowKit
set_option linter.unusedVariables false
set_option linter.unusedSimpArgs false
set_option maxRecDepth 100000
set_option maxHeartbeats 1000000
theorem ok49:FOk Tryz.prog T 49 spIn:=by
  refine fok (env:=envL []) (N:=15) tabT envL_nil mixed Tryz.func49 rfl Tryz.call49 Tryz.ntmps49 ?_
  rintro args ⟨x,lo,hi,rfl⟩ hwf
  refine ⟨by simp,?_⟩
  rw [Tryz.results49]
  repeat' first
    | (refine And.intro ?_ ?_)
    | (intro h;cases h)
    | (intro h;rw [h])
    | (intro h)
  all_goals first
    | (show lowEdges _=true;kernel_rfl)|(show logOk _ _=true;kernel_rfl)|exact True.intro|exact rfl|exact Or.inr rfl|exact Or.inl rfl
    | exact ⟨_,rfl⟩
    | exact ⟨_,_,_,rfl⟩
    | (refine resB ?_;simp_all [inR];done)
    | (refine resB ?_;simp_all [inR];omega)
theorem ok147:FOk Tryz.prog T 147 spNum:=by
  refine fok (env:=envL [(49,spIn)]) (N:=5) tabT (envL_cons ok49 envL_nil) mixed Tryz.func147 rfl Tryz.call147 Tryz.ntmps147 ?_
  rintro args ⟨x,rfl⟩ hwf
  refine ⟨by simp,?_⟩
  rw [Tryz.results147]
  repeat' first
    | (refine And.intro ?_ ?_)
    | (intro h;cases h)
    | (intro h;rw [h])
    | (intro h)
  all_goals first
    | (show lowEdges _=true;kernel_rfl)|(show logOk _ _=true;kernel_rfl)|exact True.intro|exact rfl|exact Or.inr rfl|exact Or.inl rfl
    | exact ⟨_,rfl⟩
    | exact ⟨_,_,_,rfl⟩
    | rfl
theorem ok50:FOk Tryz.prog T 50 spIn:=by
  refine fok (env:=envL []) (N:=15) tabT envL_nil mixed Tryz.func50 rfl Tryz.call50 Tryz.ntmps50 ?_
  rintro args ⟨x,lo,hi,rfl⟩ hwf
  refine ⟨by simp,?_⟩
  rw [Tryz.results50]
  repeat' first
    | (refine And.intro ?_ ?_)
    | (intro h;cases h)
    | (intro h;rw [h])
    | (intro h)
  all_goals first
    | (show lowEdges _=true;kernel_rfl)|(show logOk _ _=true;kernel_rfl)|exact True.intro|exact rfl|exact Or.inr rfl|exact Or.inl rfl
    | exact ⟨_,rfl⟩
    | exact ⟨_,_,_,rfl⟩
    | (refine resB ?_;simp_all [inR];done)
    | (refine resB ?_;simp_all [inR];omega)
theorem ok159:FOk Tryz.prog T 159 spNum:=by
  refine fok (env:=envL [(50,spIn)]) (N:=5) tabT (envL_cons ok50 envL_nil) mixed Tryz.func159 rfl Tryz.call159 Tryz.ntmps159 ?_
  rintro args ⟨x,rfl⟩ hwf
  refine ⟨by simp,?_⟩
  rw [Tryz.results159]
  repeat' first
    | (refine And.intro ?_ ?_)
    | (intro h;cases h)
    | (intro h;rw [h])
    | (intro h)
  all_goals first
    | (show lowEdges _=true;kernel_rfl)|(show logOk _ _=true;kernel_rfl)|exact True.intro|exact rfl|exact Or.inr rfl|exact Or.inl rfl
    | exact ⟨_,rfl⟩
    | exact ⟨_,_,_,rfl⟩
    | rfl
end Go.Proofs.YtkpnfbdoaljkpaaGreatDoor.Ab
