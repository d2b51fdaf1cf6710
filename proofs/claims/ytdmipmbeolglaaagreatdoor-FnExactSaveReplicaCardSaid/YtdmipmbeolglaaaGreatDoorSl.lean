/- The law, over data: printed by a program of this claim. -/
import Derived.Test.YtdmipmbeolglaaaGreatDoorLt
import Derived.Test.YtdmipmbeolglaaaGreatDoorFz
namespace Go.Proofs.YtdmipmbeolglaaaGreatDoor.Ab
open Go.RowKit
set_option linter.unusedVariables false
set_option linter.unusedSimpArgs false
set_option maxRecDepth 100000
set_option maxHeartbeats 1000000
def isoL6 : List (TypeId × TypeId) := [(29, 37), (3, 3), (102, 74), (100, 72), (9, 9), (155, 112), (178, 125)]
theorem iso_ok6 : isoOk T isoL6 = true := by kernel_rfl
/-- laws.FnExactSaveReplica -/
theorem ok6 : FOk Tryz.prog T 6 (lawG1 T [.i .i64, .l 29]) := by
  obtain ⟨g, hg, hsp, him⟩ : ∃ g : List D → ByteArray, GW g ∧ FOk Tryz.prog T 20 (spSv T [.i .i64, .l 37] g) ∧ FOk Tryz.prog T 22 (spSv T [.i .i64, .l 37] g) :=
    ⟨fun a => recT (opText a), rec_w, ok20 _ rec_w (ok15 _ rec_le (ok12 _ (fun _ h => opText_le h) ok8)), ok22 _ rec_w (ok17 _ rec_le (ok13 _ (fun _ h => opText_le h) ok10))⟩
  refine fok (env := envL [(19, (szG [.i .i64, .l 29])), (21, (toG T [.i .i64, .l 29] [.i .i64, .l 37])), (20, (spSv T [.i .i64, .l 37] g)), (22, (spSv T [.i .i64, .l 37] g)), (18, (eqG [.s, .i .i64])), (23, (eqG [.i .i64, .l 37]))]) (N := 28) tabT (envL_cons ok19 (envL_cons ok21 (envL_cons hsp (envL_cons him (envL_cons ok18 (envL_cons ok23 envL_nil)))))) mixed Tryz.func6 rfl Tryz.call6 Tryz.ntmps6 ?_
  rintro args ⟨a, wa, rfl⟩ hwf
  have wa' := (wa.iso iso_ok6 (cts' := [.i .i64, .l 37]) rfl)
  rw [← csD_rowC wa] at wa'
  refine ⟨by simp, ?_⟩
  clear hwf
  rw [Tryz.results6]
  repeat' first
    | (refine And.intro ?_ ?_)
    | (intro h; with_reducible have h2 := szR_no h (by omega); clear h)
    | (intro h; with_reducible have h3 := szR_yes h; obtain ⟨hw, he⟩ := h3; (try rw [he]); clear h he; have q1 := szC (r' := csD (rowC [.i .i64, .l 29] a)) hw rfl; have q2 := Nat.le_trans (wRows_cell (csD (rowC [.i .i64, .l 29] a)) 1) q1; have q3 := dkTo_le hg q2 (Nat.le_refl _); have q4 : (dkTo g ((csD (rowC [.i .i64, .l 29] a)).getD 1 default).rows ((csD (rowC [.i .i64, .l 29] a)).getD 1 default).rows.length).size ≤ maxLen := (by simp only [maxLen]; omega); have q5 := size_inK q4)
    | (intro h; simp only [reduceCtorEq] at h; done)
    | (intro h; with_reducible exact (no_txt h).elim)
    | (intro h; with_reducible exact (no_not h).elim)
    | (intro h; with_reducible exact (no_bne h).elim)
    | (intro h; with_reducible exact (no_beqB h).elim)
    | (intro h; rw [h])
    | (intro h)
  all_goals first
    | (show lowEdges _ = true; kernel_rfl) | (show logOk _ _ = true; kernel_rfl) | exact True.intro | exact Or.inr rfl
    | exact ⟨_, _, wa, by decide, by decide, rfl⟩
    | exact ⟨_, wa, q1, rfl⟩
    | exact ⟨_, wa', q2, rfl⟩
    | exact ⟨_, _, wf_st q4 q5, wf_st q4 q5, rfl⟩
    | exact ⟨_, _, wa', wa', rfl⟩
    | rfl
end Go.Proofs.YtdmipmbeolglaaaGreatDoor.Ab
