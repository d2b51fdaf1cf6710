/- Records of operations: printed by a program of this claim. -/
import Derived.Test.YtdmipmbeolglaaaGreatDoorFs
import Derived.Test.YtdmipmbeolglaaaGreatDoorFe
namespace Go.Proofs.YtdmipmbeolglaaaGreatDoor.Ab
open Go.RowKit
set_option linter.unusedVariables false
set_option linter.unusedSimpArgs false
set_option maxRecDepth 100000
set_option maxHeartbeats 1000000
theorem ok45 : FOk Tryz.prog T 45 spSum := sum_ok Tryz.call45 specSum
theorem ok47 : FOk Tryz.prog T 47 spSum := sum_ok Tryz.call47 implSum
/-- spec.FormatRecord -/
theorem ok12 (g : List D → ByteArray) (hz : ∀ a, SmO a → (g a).size ≤ 140737488355328) (hg : FOk Tryz.prog T 8 (spTx T [.i .i64, .i .i64, .i .i64, .l 3, .i .i64, .i .i64, .i .i64, .i .i64, .i .i64, .s, .s, .i .i64, .s, .s, .i .i64, .i .i64, .l 74] SmO g)) : FOk Tryz.prog T 12 (spTx T [.i .i64, .i .i64, .i .i64, .l 3, .i .i64, .i .i64, .i .i64, .i .i64, .i .i64, .s, .s, .i .i64, .s, .s, .i .i64, .i .i64, .l 74] SmO (fun a => recT (g a))) := by
  refine fok (env := envL [(8, (spTx T [.i .i64, .i .i64, .i .i64, .l 3, .i .i64, .i .i64, .i .i64, .i .i64, .i .i64, .s, .s, .i .i64, .s, .s, .i .i64, .i .i64, .l 74] SmO g)), (45, spSum), (29, spItoa)]) (N := 15) tabT (envL_cons hg (envL_cons ok45 (envL_cons ok29 envL_nil))) mixed Tryz.func12 rfl Tryz.call12 Tryz.ntmps12 ?_
  rintro args ⟨a, wa, sm, rfl⟩ hwf
  have ec : csD (rowC [.i .i64, .i .i64, .i .i64, .l 3, .i .i64, .i .i64, .i .i64, .i .i64, .i .i64, .s, .s, .i .i64, .s, .s, .i .i64, .i .i64, .l 74] a) = a := csD_rowC wa
  have hsz' : (g (csD (rowC [.i .i64, .i .i64, .i .i64, .l 3, .i .i64, .i .i64, .i .i64, .i .i64, .i .i64, .s, .s, .i .i64, .s, .s, .i .i64, .i .i64, .l 74] a))).size ≤ 140737488355328 := by rw [ec]; exact hz a sm
  refine ⟨by simp, ?_⟩
  clear hwf
  rw [Tryz.results12]
  repeat' first
    | (refine And.intro ?_ ?_)
    | (intro h)
  all_goals first
    | (show lowEdges _ = true; kernel_rfl) | (show logOk _ _ = true; kernel_rfl) | exact True.intro | exact Or.inr rfl
    | exact ⟨_, wa, sm, rfl⟩
    | exact ⟨_, hsz', rfl⟩
    | exact ⟨_, rfl⟩
    | exact resS (recT_no (t := g (csD (rowC [.i .i64, .i .i64, .i .i64, .l 3, .i .i64, .i .i64, .i .i64, .i .i64, .i .i64, .s, .s, .i .i64, .s, .s, .i .i64, .i .i64, .l 74] a))) (str_is h)).symm
    | exact rec1 hsz'
    | exact rec2 hsz'
    | exact rec3 hsz'
    | exact resS (recT_yes (t := g (csD (rowC [.i .i64, .i .i64, .i .i64, .l 3, .i .i64, .i .i64, .i .i64, .i .i64, .i .i64, .s, .s, .i .i64, .s, .s, .i .i64, .i .i64, .l 74] a))) (str_isnt h)).symm
/-- impl.FormatRecord -/
theorem ok13 (g : List D → ByteArray) (hz : ∀ a, SmO a → (g a).size ≤ 140737488355328) (hg : FOk Tryz.prog T 10 (spTx T [.i .i64, .i .i64, .i .i64, .l 3, .i .i64, .i .i64, .i .i64, .i .i64, .i .i64, .s, .s, .i .i64, .s, .s, .i .i64, .i .i64, .l 74] SmO g)) : FOk Tryz.prog T 13 (spTx T [.i .i64, .i .i64, .i .i64, .l 3, .i .i64, .i .i64, .i .i64, .i .i64, .i .i64, .s, .s, .i .i64, .s, .s, .i .i64, .i .i64, .l 74] SmO (fun a => recT (g a))) := by
  refine fok (env := envL [(10, (spTx T [.i .i64, .i .i64, .i .i64, .l 3, .i .i64, .i .i64, .i .i64, .i .i64, .i .i64, .s, .s, .i .i64, .s, .s, .i .i64, .i .i64, .l 74] SmO g)), (47, spSum), (46, spItoa)]) (N := 15) tabT (envL_cons hg (envL_cons ok47 (envL_cons ok46 envL_nil))) mixed Tryz.func13 rfl Tryz.call13 Tryz.ntmps13 ?_
  rintro args ⟨a, wa, sm, rfl⟩ hwf
  have ec : csD (rowC [.i .i64, .i .i64, .i .i64, .l 3, .i .i64, .i .i64, .i .i64, .i .i64, .i .i64, .s, .s, .i .i64, .s, .s, .i .i64, .i .i64, .l 74] a) = a := csD_rowC wa
  have hsz' : (g (csD (rowC [.i .i64, .i .i64, .i .i64, .l 3, .i .i64, .i .i64, .i .i64, .i .i64, .i .i64, .s, .s, .i .i64, .s, .s, .i .i64, .i .i64, .l 74] a))).size ≤ 140737488355328 := by rw [ec]; exact hz a sm
  refine ⟨by simp, ?_⟩
  clear hwf
  rw [Tryz.results13]
  repeat' first
    | (refine And.intro ?_ ?_)
    | (intro h)
  all_goals first
    | (show lowEdges _ = true; kernel_rfl) | (show logOk _ _ = true; kernel_rfl) | exact True.intro | exact Or.inr rfl
    | exact ⟨_, wa, sm, rfl⟩
    | exact ⟨_, hsz', rfl⟩
    | exact ⟨_, rfl⟩
    | exact resS (recT_no (t := g (csD (rowC [.i .i64, .i .i64, .i .i64, .l 3, .i .i64, .i .i64, .i .i64, .i .i64, .i .i64, .s, .s, .i .i64, .s, .s, .i .i64, .i .i64, .l 74] a))) (str_is h)).symm
    | exact rec1 hsz'
    | exact rec2 hsz'
    | exact rec3 hsz'
    | exact resS (recT_yes (t := g (csD (rowC [.i .i64, .i .i64, .i .i64, .l 3, .i .i64, .i .i64, .i .i64, .i .i64, .i .i64, .s, .s, .i .i64, .s, .s, .i .i64, .i .i64, .l 74] a))) (str_isnt h)).symm
end Go.Proofs.YtdmipmbeolglaaaGreatDoor.Ab
