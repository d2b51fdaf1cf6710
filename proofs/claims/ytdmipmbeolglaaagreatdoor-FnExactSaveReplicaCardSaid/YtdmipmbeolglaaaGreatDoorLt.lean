/- The law, over data: printed by a program of this claim. -/
import Derived.Test.YtdmipmbeolglaaaGreatDoorFn
import Derived.Test.YtdmipmbeolglaaaGreatDoorFr
import Derived.Test.YtdmipmbeolglaaaGreatDoorFx
import Derived.Test.YtdmipmbeolglaaaGreatDoorEe
import Derived.Test.YtdmipmbeolglaaaGreatDoorLv
namespace Go.Proofs.YtdmipmbeolglaaaGreatDoor.Ab
open Go.RowKit
set_option linter.unusedVariables false
set_option linter.unusedSimpArgs false
set_option maxRecDepth 100000
set_option maxHeartbeats 1000000
def isoL5 : List (TypeId × TypeId) := [(3, 3), (102, 74), (100, 72), (9, 9), (155, 112), (178, 125)]
theorem iso_ok5 : isoOk T isoL5 = true := by kernel_rfl
theorem rec_le (a : List D) (h : SmO a) : (recT (opText a)).size ≤ 140737488355340 := Nat.le_trans recT_le (by have := opText_le h; omega)
/-- laws.FnExactWriteOp -/
theorem ok5 : FOk Tryz.prog T 5 (lawST T [.s, .i .i64] [.i .i64, .i .i64, .i .i64, .l 3, .i .i64, .i .i64, .i .i64, .i .i64, .i .i64, .s, .s, .i .i64, .s, .s, .i .i64, .i .i64, .l 102]) := by
  obtain ⟨g, hz, hsp, him⟩ : ∃ g : List D → ByteArray, (∀ a, SmO a → (g a).size ≤ 140737488355340) ∧ FOk Tryz.prog T 15 (spWr T [.s, .i .i64] [.i .i64, .i .i64, .i .i64, .l 3, .i .i64, .i .i64, .i .i64, .i .i64, .i .i64, .s, .s, .i .i64, .s, .s, .i .i64, .i .i64, .l 74] SmO g) ∧ FOk Tryz.prog T 17 (spWr T [.s, .i .i64] [.i .i64, .i .i64, .i .i64, .l 3, .i .i64, .i .i64, .i .i64, .i .i64, .i .i64, .s, .s, .i .i64, .s, .s, .i .i64, .i .i64, .l 74] SmO g) :=
    ⟨fun a => recT (opText a), rec_le, ok15 _ rec_le (ok12 _ (fun _ h => opText_le h) ok8), ok17 _ rec_le (ok13 _ (fun _ h => opText_le h) ok10)⟩
  refine fok (env := envL [(14, (szG [.s, .i .i64])), (7, (szG [.i .i64, .i .i64, .i .i64, .l 3, .i .i64, .i .i64, .i .i64, .i .i64, .i .i64, .s, .s, .i .i64, .s, .s, .i .i64, .i .i64, .l 102])), (16, (toG T [.s, .i .i64] [.s, .i .i64])), (9, (toG T [.i .i64, .i .i64, .i .i64, .l 3, .i .i64, .i .i64, .i .i64, .i .i64, .i .i64, .s, .s, .i .i64, .s, .s, .i .i64, .i .i64, .l 102] [.i .i64, .i .i64, .i .i64, .l 3, .i .i64, .i .i64, .i .i64, .i .i64, .i .i64, .s, .s, .i .i64, .s, .s, .i .i64, .i .i64, .l 74])), (15, (spWr T [.s, .i .i64] [.i .i64, .i .i64, .i .i64, .l 3, .i .i64, .i .i64, .i .i64, .i .i64, .i .i64, .s, .s, .i .i64, .s, .s, .i .i64, .i .i64, .l 74] SmO g)), (17, (spWr T [.s, .i .i64] [.i .i64, .i .i64, .i .i64, .l 3, .i .i64, .i .i64, .i .i64, .i .i64, .i .i64, .s, .s, .i .i64, .s, .s, .i .i64, .i .i64, .l 74] SmO g)), (18, (eqG [.s, .i .i64])), (11, (eqG [.i .i64, .i .i64, .i .i64, .l 3, .i .i64, .i .i64, .i .i64, .i .i64, .i .i64, .s, .s, .i .i64, .s, .s, .i .i64, .i .i64, .l 74]))]) (N := 52) tabT (envL_cons ok14 (envL_cons ok7 (envL_cons ok16 (envL_cons ok9 (envL_cons hsp (envL_cons him (envL_cons ok18 (envL_cons ok11 envL_nil)))))))) mixed Tryz.func5 rfl Tryz.call5 Tryz.ntmps5 ?_
  rintro args ⟨s, a, ws, wa, rfl⟩ hwf
  have wa' := (wa.iso iso_ok5 (cts' := [.i .i64, .i .i64, .i .i64, .l 3, .i .i64, .i .i64, .i .i64, .i .i64, .i .i64, .s, .s, .i .i64, .s, .s, .i .i64, .i .i64, .l 74]) rfl)
  rw [← csD_rowC wa] at wa'
  have ws' := (ws.iso iso_ok5 (cts' := [.s, .i .i64]) rfl)
  rw [← csD_rowC ws] at ws'
  have hn := ws'.int (j := 1) rfl
  refine ⟨by simp, ?_⟩
  clear hwf
  rw [Tryz.results5]
  repeat' first
    | (refine And.intro ?_ ?_)
    | (intro h; with_reducible have h2 := szR_no h (by omega); clear h)
    | (intro h; have q0 := q1; with_reducible have h3 := szR_yes h; obtain ⟨hw2, he⟩ := h3; (try rw [he]); clear h he q0; have q2 := szC2 (r' := csD (rowC [.i .i64, .i .i64, .i .i64, .l 3, .i .i64, .i .i64, .i .i64, .i .i64, .i .i64, .s, .s, .i .i64, .s, .s, .i .i64, .i .i64, .l 102] a)) hw2 rfl; have q4 := hz _ (smO q2))
    | (intro h; with_reducible have h3 := szR_yes h; obtain ⟨hw, he⟩ := h3; (try rw [he]); clear h he; have q1 := szC (r' := csD (rowC [.s, .i .i64] s)) hw rfl; have q3 := wStr_cell (csD (rowC [.s, .i .i64] s)) 0)
    | (intro h; simp only [reduceCtorEq] at h; done)
    | (intro h; with_reducible exact (no_txt h).elim)
    | (intro h; with_reducible exact (no_not h).elim)
    | (intro h; with_reducible exact (no_bne h).elim)
    | (intro h; with_reducible exact (no_beqB h).elim)
    | (intro h; rw [h])
    | (intro h)
  all_goals first
    | (show lowEdges _ = true; kernel_rfl) | (show logOk _ _ = true; kernel_rfl) | exact True.intro | exact Or.inr rfl
    | exact ⟨_, _, ws, by decide, by decide, rfl⟩
    | exact ⟨_, _, wa, by omega, by omega, rfl⟩
    | exact ⟨_, ws, q1, rfl⟩
    | exact ⟨_, wa, q2, rfl⟩
    | exact ⟨_, _, ws', wa', smO q2, by omega, rfl⟩
    | exact ⟨_, _, wf_st (wrD_le q4 (Nat.le_trans q3 (by omega))) hn, wf_st (wrD_le q4 (Nat.le_trans q3 (by omega))) hn, rfl⟩
    | exact ⟨_, _, wa', wa', rfl⟩
    | rfl
end Go.Proofs.YtdmipmbeolglaaaGreatDoor.Ab
