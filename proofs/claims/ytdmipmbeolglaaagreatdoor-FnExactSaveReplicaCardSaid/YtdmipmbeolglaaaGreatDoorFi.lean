/- Operations checked: printed by a program of this claim. -/
import Derived.Test.YtdmipmbeolglaaaGreatDoorFf
import Derived.Test.YtdmipmbeolglaaaGreatDoorFh
namespace Go.Proofs.YtdmipmbeolglaaaGreatDoor.Ab
open Go.RowKit
set_option linter.unusedVariables false
set_option linter.unusedSimpArgs false
set_option maxRecDepth 100000
set_option maxHeartbeats 1000000
/-- spec.l41Seen -/
theorem ok80 : FOk Tryz.prog T 80 spSeen := by
  refine fok (env := envL [(75, spIn)]) (N := 19) tabT (envL_cons ok75 envL_nil) mixed Tryz.func80 rfl Tryz.call80 Tryz.ntmps80 ?_
  rintro args ⟨a, rfl⟩ hwf
  have wa : WfD T (.l 3) (.l a) := arg0 hwf (List.mem_singleton_self _)
  have la := wa.len
  clear hwf
  refine ⟨by simp, ?_⟩
  rw [Tryz.results80]
  repeat' first
    | (refine And.intro ?_ ?_)
    | (intro h; cases h)
    | (intro h; rw [h])
    | (intro h)
  all_goals first
    | (show lowEdges _ = true; kernel_rfl) | (show logOk _ _ = true; kernel_rfl) | exact True.intro | exact rfl | exact Or.inr rfl | exact Or.inl rfl
    | skip
  refine awp_loop (Q := _) [0, 3] [] (fun n q => ∃ i : Int, q = ([argS 3 a, .val false [.i .i64 i]], []) ∧ 0 ≤ i ∧ i ≤ a.length ∧ n = a.length - i.toNat ∧ (a.take i.toNat).all (fun r => inR (intOf r) 0 60) = true) ?_ ?_
  · exact ⟨rfl, a.length - 0, 0, rfl, by omega, by omega, rfl, rfl⟩
  rintro n q ⟨i, rfl, h1, h2, h3, h4⟩
  repeat' first
    | (refine And.intro ?_ ?_)
    | (intro h; cases h)
    | (intro h; rw [h])
    | (intro h)
  all_goals first
    | (show lowEdges _ = true; kernel_rfl) | (show logOk _ _ = true; kernel_rfl) | exact True.intro | exact rfl | exact Or.inr rfl | exact Or.inl rfl
    | omega
    | exact of_decide_eq_true ‹_›
    | exact ⟨_, _, _, rfl⟩
    | (have hA := all_end h1 h2 ‹_› h4
       refine resB ?_
       simp only [seenB, hA, Bool.true_and]
       rw [Bool.eq_iff_iff]
       simp
       omega)
    | (have hi : i < (a.length : Int) := of_decide_eq_true ‹decide (i < (a.length : Int)) = true›
       first
         | (have hA := all_stop (p := fun r => inR (intOf r) 0 60) h1 hi (by simpa using ‹(!inR _ 0 60) = true›)
            exact resB (by simp [seenB, hA]))
         | exact ⟨a.length - (i + 1).toNat, by omega, i + 1, congrArg (fun z : Int => (([argS 3 a, .val false [.i .i64 z]], []) : Snap)) (wrap_next h1 hi la), by omega, by omega, rfl, all_next h1 hi h4 (by simpa using ‹(!inR _ 0 60) = false›)⟩)
/-- spec.IsValidOp -/
theorem ok59 : FOk Tryz.prog T 59 (spOp T [.i .i64, .i .i64, .i .i64, .l 3, .i .i64, .i .i64, .i .i64, .i .i64, .i .i64, .s, .s, .i .i64, .s, .s, .i .i64, .i .i64, .l 74]) := by
  refine fok (env := envL [(75, spIn), (80, spSeen)]) (N := 72) tabT (envL_cons ok75 (envL_cons ok80 envL_nil)) mixed Tryz.func59 rfl Tryz.call59 Tryz.ntmps59 ?_
  rintro args ⟨a, wa, rfl⟩ hwf
  refine ⟨by simp, ?_⟩
  rw [Tryz.results59]
  clear hwf
  repeat' first
    | (refine And.intro ?_ ?_)
    | (intro h; cases h)
    | (intro h; rw [h])
    | (intro h)
  all_goals first
    | (show lowEdges _ = true; kernel_rfl) | (show logOk _ _ = true; kernel_rfl) | exact True.intro | exact rfl | exact Or.inr rfl | exact Or.inl rfl
    | exact ⟨_, rfl⟩
    | exact ⟨_, _, _, rfl⟩
    | (refine resB (Eq.trans ?_ (okOp_rowC wa).symm); clear wa; simp_all [okOp, noEdit, noNames, noTape, eqDs, eqD, inR]; done)
    | (refine resB (Eq.trans ?_ (okOp_rowC wa).symm); clear wa; simp_all [okOp, noEdit, noNames, noTape, eqDs, eqD, inR]; omega)
    | (refine resB (Eq.trans ?_ (okOp_rowC wa).symm); clear wa; simp_all [okOp, noEdit, noNames, noTape, eqDs, eqD, inR]; done)
end Go.Proofs.YtdmipmbeolglaaaGreatDoor.Ab
