/- The law, over data: printed by a program of this claim. -/
import Derived.Test.YtdmipmbeolglaaaGreatDoorFn
import Derived.Test.YtdmipmbeolglaaaGreatDoorFr
import Derived.Test.YtdmipmbeolglaaaGreatDoorEe
import Derived.Test.YtdmipmbeolglaaaGreatDoorLx
namespace Go.Proofs.YtdmipmbeolglaaaGreatDoor.Ab
open Go.RowKit
set_option linter.unusedVariables false
set_option linter.unusedSimpArgs false
set_option maxRecDepth 100000
set_option maxHeartbeats 1000000
def isoL4 : List (TypeId × TypeId) := [(3, 3), (102, 74), (100, 72), (9, 9), (155, 112), (178, 125)]
theorem iso_ok4 : isoOk T isoL4 = true := by kernel_rfl
/-- laws.FnExactFormatRecord -/
theorem ok4 : FOk Tryz.prog T 4 (lawG1 T [.i .i64, .i .i64, .i .i64, .l 3, .i .i64, .i .i64, .i .i64, .i .i64, .i .i64, .s, .s, .i .i64, .s, .s, .i .i64, .i .i64, .l 102]) := by
  obtain ⟨g, hsp, him⟩ : ∃ g, FOk Tryz.prog T 12 (spTx T [.i .i64, .i .i64, .i .i64, .l 3, .i .i64, .i .i64, .i .i64, .i .i64, .i .i64, .s, .s, .i .i64, .s, .s, .i .i64, .i .i64, .l 74] SmO g) ∧ FOk Tryz.prog T 13 (spTx T [.i .i64, .i .i64, .i .i64, .l 3, .i .i64, .i .i64, .i .i64, .i .i64, .i .i64, .s, .s, .i .i64, .s, .s, .i .i64, .i .i64, .l 74] SmO g) := ⟨fun a => recT (opText a), ok12 _ (fun _ h => opText_le h) ok8, ok13 _ (fun _ h => opText_le h) ok10⟩
  refine fok (env := envL [(7, (szG [.i .i64, .i .i64, .i .i64, .l 3, .i .i64, .i .i64, .i .i64, .i .i64, .i .i64, .s, .s, .i .i64, .s, .s, .i .i64, .i .i64, .l 102])), (9, (toG T [.i .i64, .i .i64, .i .i64, .l 3, .i .i64, .i .i64, .i .i64, .i .i64, .i .i64, .s, .s, .i .i64, .s, .s, .i .i64, .i .i64, .l 102] [.i .i64, .i .i64, .i .i64, .l 3, .i .i64, .i .i64, .i .i64, .i .i64, .i .i64, .s, .s, .i .i64, .s, .s, .i .i64, .i .i64, .l 74])), (12, (spTx T [.i .i64, .i .i64, .i .i64, .l 3, .i .i64, .i .i64, .i .i64, .i .i64, .i .i64, .s, .s, .i .i64, .s, .s, .i .i64, .i .i64, .l 74] SmO g)), (13, (spTx T [.i .i64, .i .i64, .i .i64, .l 3, .i .i64, .i .i64, .i .i64, .i .i64, .i .i64, .s, .s, .i .i64, .s, .s, .i .i64, .i .i64, .l 74] SmO g)), (11, (eqG [.i .i64, .i .i64, .i .i64, .l 3, .i .i64, .i .i64, .i .i64, .i .i64, .i .i64, .s, .s, .i .i64, .s, .s, .i .i64, .i .i64, .l 74]))]) (N := 27) tabT (envL_cons ok7 (envL_cons ok9 (envL_cons hsp (envL_cons him (envL_cons ok11 envL_nil))))) mixed Tryz.func4 rfl Tryz.call4 Tryz.ntmps4 ?_
  rintro args ⟨a, wa, rfl⟩ hwf
  have wa' := (wa.iso iso_ok4 (cts' := [.i .i64, .i .i64, .i .i64, .l 3, .i .i64, .i .i64, .i .i64, .i .i64, .i .i64, .s, .s, .i .i64, .s, .s, .i .i64, .i .i64, .l 74]) rfl)
  rw [← csD_rowC wa] at wa'
  refine ⟨by simp, ?_⟩
  clear hwf
  rw [Tryz.results4]
  repeat' first
    | (refine And.intro ?_ ?_)
    | (intro h; have h2 := szR_no h (by omega); clear h)
    | (intro h; obtain ⟨hw, he⟩ := szR_yes h; (try rw [he]); clear h he)
    | (intro h; exact (no_txt h).elim)
    | (intro h; exact (no_not h).elim)
    | (intro h)
  all_goals first
    | (show lowEdges _ = true; kernel_rfl) | (show logOk _ _ = true; kernel_rfl) | exact True.intro | exact Or.inr rfl
    | exact rfl
    | exact ⟨_, _, wa, by decide, by decide, rfl⟩
    | exact ⟨_, wa, szC (r' := csD (rowC [.i .i64, .i .i64, .i .i64, .l 3, .i .i64, .i .i64, .i .i64, .i .i64, .i .i64, .s, .s, .i .i64, .s, .s, .i .i64, .i .i64, .l 102] a)) hw rfl, rfl⟩
    | exact ⟨_, wa', smO (szC (r' := csD (rowC [.i .i64, .i .i64, .i .i64, .l 3, .i .i64, .i .i64, .i .i64, .i .i64, .i .i64, .s, .s, .i .i64, .s, .s, .i .i64, .i .i64, .l 102] a)) hw rfl), rfl⟩
    | exact ⟨_, _, wa', wa', rfl⟩
end Go.Proofs.YtdmipmbeolglaaaGreatDoor.Ab
