/- Writes to stores: printed by a program of this claim. -/
import Derived.Test.YtdmipmbeolglaaaGreatDoorFw
import Derived.Test.YtdmipmbeolglaaaGreatDoorVb
namespace Go.Proofs.YtdmipmbeolglaaaGreatDoor.Ab
open Go.RowKit
set_option linter.unusedVariables false
set_option linter.unusedSimpArgs false
set_option maxRecDepth 100000
set_option maxHeartbeats 1000000
/-- spec.IsValidStore -/
theorem ok48 : FOk Tryz.prog T 48 (spStV T [.s, .i .i64]) := by
  refine fok (env := envL [(75, spIn)]) (N := 9) tabT (envL_cons ok75 envL_nil) mixed Tryz.func48 rfl Tryz.call48 Tryz.ntmps48 ?_
  rintro args ⟨a, wa, rfl⟩ hwf
  refine ⟨by simp, ?_⟩
  clear hwf
  rw [Tryz.results48]
  repeat' first
    | (refine And.intro ?_ ?_)
    | (intro h; cases h)
    | (intro h; rw [h])
    | (intro h)
  all_goals first
    | (show lowEdges _ = true; kernel_rfl) | (show logOk _ _ = true; kernel_rfl) | exact True.intro | exact Or.inr rfl | exact Or.inl rfl
    | exact ⟨_, _, _, rfl⟩
    | rfl
/-- impl.IsValidStore -/
theorem ok49 : FOk Tryz.prog T 49 (spStV T [.s, .i .i64]) := by
  refine fok (env := envL [(63, spIn)]) (N := 9) tabT (envL_cons ok63 envL_nil) mixed Tryz.func49 rfl Tryz.call49 Tryz.ntmps49 ?_
  rintro args ⟨a, wa, rfl⟩ hwf
  refine ⟨by simp, ?_⟩
  clear hwf
  rw [Tryz.results49]
  repeat' first
    | (refine And.intro ?_ ?_)
    | (intro h; cases h)
    | (intro h; rw [h])
    | (intro h)
  all_goals first
    | (show lowEdges _ = true; kernel_rfl) | (show logOk _ _ = true; kernel_rfl) | exact True.intro | exact Or.inr rfl | exact Or.inl rfl
    | exact ⟨_, _, _, rfl⟩
    | rfl
/-- spec.SyncStore -/
theorem ok51 : FOk Tryz.prog T 51 (spStS T [.s, .i .i64]) := by
  refine fok (env := envL []) (N := 8) tabT envL_nil mixed Tryz.func51 rfl Tryz.call51 Tryz.ntmps51 ?_
  rintro args ⟨a, wa, rfl⟩ hwf
  refine ⟨by simp, ?_⟩
  clear hwf
  rw [Tryz.results51]
  repeat' first
    | (refine And.intro ?_ ?_)
    | (intro h; cases h)
    | (intro h; rw [h])
    | (intro h)
  all_goals first
    | (show lowEdges _ = true; kernel_rfl) | (show logOk _ _ = true; kernel_rfl) | exact True.intro | exact Or.inr rfl | exact Or.inl rfl
    | exact ⟨_, _, _, rfl⟩
    | rfl
/-- impl.SyncStore -/
theorem ok53 : FOk Tryz.prog T 53 (spStS T [.s, .i .i64]) := by
  refine fok (env := envL []) (N := 9) tabT envL_nil mixed Tryz.func53 rfl Tryz.call53 Tryz.ntmps53 ?_
  rintro args ⟨a, wa, rfl⟩ hwf
  refine ⟨by simp, ?_⟩
  clear hwf
  rw [Tryz.results53]
  repeat' first
    | (refine And.intro ?_ ?_)
    | (intro h; cases h)
    | (intro h; rw [h])
    | (intro h)
  all_goals first
    | (show lowEdges _ = true; kernel_rfl) | (show logOk _ _ = true; kernel_rfl) | exact True.intro | exact Or.inr rfl | exact Or.inl rfl
    | exact ⟨_, _, _, rfl⟩
    | rfl
/-- spec.WriteOp -/
theorem ok15 (g : List D → ByteArray) (hz : ∀ a, SmO a → (g a).size ≤ 140737488355340) (hg : FOk Tryz.prog T 12 (spTx T [.i .i64, .i .i64, .i .i64, .l 3, .i .i64, .i .i64, .i .i64, .i .i64, .i .i64, .s, .s, .i .i64, .s, .s, .i .i64, .i .i64, .l 74] SmO g)) : FOk Tryz.prog T 15 (spWr T [.s, .i .i64] [.i .i64, .i .i64, .i .i64, .l 3, .i .i64, .i .i64, .i .i64, .i .i64, .i .i64, .s, .s, .i .i64, .s, .s, .i .i64, .i .i64, .l 74] SmO g) := by
  refine fok (env := envL [(12, (spTx T [.i .i64, .i .i64, .i .i64, .l 3, .i .i64, .i .i64, .i .i64, .i .i64, .i .i64, .s, .s, .i .i64, .s, .s, .i .i64, .i .i64, .l 74] SmO g)), (48, (spStV T [.s, .i .i64]))]) (N := 23) tabT (envL_cons hg (envL_cons ok48 envL_nil)) mixed Tryz.func15 rfl Tryz.call15 Tryz.ntmps15 ?_
  rintro args ⟨s, a, ws, wa, sm, hd, rfl⟩ hwf
  have ec : csD (rowC [.i .i64, .i .i64, .i .i64, .l 3, .i .i64, .i .i64, .i .i64, .i .i64, .i .i64, .s, .s, .i .i64, .s, .s, .i .i64, .i .i64, .l 74] a) = a := csD_rowC wa
  have hsz' : (g (csD (rowC [.i .i64, .i .i64, .i .i64, .l 3, .i .i64, .i .i64, .i .i64, .i .i64, .i .i64, .s, .s, .i .i64, .s, .s, .i .i64, .i .i64, .l 74] a))).size ≤ 140737488355340 := by rw [ec]; exact hz a sm
  refine ⟨by simp, ?_⟩
  clear hwf
  rw [Tryz.results15]
  repeat' first
    | (refine And.intro ?_ ?_)
    | (intro h; cases h)
    | (intro h; rw [h])
    | (intro h)
  all_goals first
    | (show lowEdges _ = true; kernel_rfl) | (show logOk _ _ = true; kernel_rfl) | exact True.intro | exact Or.inr rfl
    | exact ⟨_, wa, sm, rfl⟩
    | exact ⟨_, ws, rfl⟩
    | exact wr_le hd hsz'
    | exact resW_bad (t := g (csD (rowC [.i .i64, .i .i64, .i .i64, .l 3, .i .i64, .i .i64, .i .i64, .i .i64, .i .i64, .s, .s, .i .i64, .s, .s, .i .i64, .i .i64, .l 74] a))) h
    | exact resW_none (t := g (csD (rowC [.i .i64, .i .i64, .i .i64, .l 3, .i .i64, .i .i64, .i .i64, .i .i64, .i .i64, .s, .s, .i .i64, .s, .s, .i .i64, .i .i64, .l 74] a))) h
    | (rename_i h1; exact resW_yes (t := g (csD (rowC [.i .i64, .i .i64, .i .i64, .l 3, .i .i64, .i .i64, .i .i64, .i .i64, .i .i64, .s, .s, .i .i64, .s, .s, .i .i64, .i .i64, .l 74] a))) h1 h)
/-- impl.WriteOp -/
theorem ok17 (g : List D → ByteArray) (hz : ∀ a, SmO a → (g a).size ≤ 140737488355340) (hg : FOk Tryz.prog T 13 (spTx T [.i .i64, .i .i64, .i .i64, .l 3, .i .i64, .i .i64, .i .i64, .i .i64, .i .i64, .s, .s, .i .i64, .s, .s, .i .i64, .i .i64, .l 74] SmO g)) : FOk Tryz.prog T 17 (spWr T [.s, .i .i64] [.i .i64, .i .i64, .i .i64, .l 3, .i .i64, .i .i64, .i .i64, .i .i64, .i .i64, .s, .s, .i .i64, .s, .s, .i .i64, .i .i64, .l 74] SmO g) := by
  refine fok (env := envL [(13, (spTx T [.i .i64, .i .i64, .i .i64, .l 3, .i .i64, .i .i64, .i .i64, .i .i64, .i .i64, .s, .s, .i .i64, .s, .s, .i .i64, .i .i64, .l 74] SmO g)), (49, (spStV T [.s, .i .i64]))]) (N := 24) tabT (envL_cons hg (envL_cons ok49 envL_nil)) mixed Tryz.func17 rfl Tryz.call17 Tryz.ntmps17 ?_
  rintro args ⟨s, a, ws, wa, sm, hd, rfl⟩ hwf
  have ec : csD (rowC [.i .i64, .i .i64, .i .i64, .l 3, .i .i64, .i .i64, .i .i64, .i .i64, .i .i64, .s, .s, .i .i64, .s, .s, .i .i64, .i .i64, .l 74] a) = a := csD_rowC wa
  have hsz' : (g (csD (rowC [.i .i64, .i .i64, .i .i64, .l 3, .i .i64, .i .i64, .i .i64, .i .i64, .i .i64, .s, .s, .i .i64, .s, .s, .i .i64, .i .i64, .l 74] a))).size ≤ 140737488355340 := by rw [ec]; exact hz a sm
  refine ⟨by simp, ?_⟩
  clear hwf
  rw [Tryz.results17]
  repeat' first
    | (refine And.intro ?_ ?_)
    | (intro h; cases h)
    | (intro h; rw [h])
    | (intro h)
  all_goals first
    | (show lowEdges _ = true; kernel_rfl) | (show logOk _ _ = true; kernel_rfl) | exact True.intro | exact Or.inr rfl
    | exact ⟨_, wa, sm, rfl⟩
    | exact ⟨_, ws, rfl⟩
    | exact wr_le hd hsz'
    | exact resW_bad (t := g (csD (rowC [.i .i64, .i .i64, .i .i64, .l 3, .i .i64, .i .i64, .i .i64, .i .i64, .i .i64, .s, .s, .i .i64, .s, .s, .i .i64, .i .i64, .l 74] a))) h
    | exact resW_none (t := g (csD (rowC [.i .i64, .i .i64, .i .i64, .l 3, .i .i64, .i .i64, .i .i64, .i .i64, .i .i64, .s, .s, .i .i64, .s, .s, .i .i64, .i .i64, .l 74] a))) h
    | (rename_i h1; exact resW_yes (t := g (csD (rowC [.i .i64, .i .i64, .i .i64, .l 3, .i .i64, .i .i64, .i .i64, .i .i64, .i .i64, .s, .s, .i .i64, .s, .s, .i .i64, .i .i64, .l 74] a))) h1 h)
end Go.Proofs.YtdmipmbeolglaaaGreatDoor.Ab
