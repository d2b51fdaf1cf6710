/- Drawn tapes: printed by a program of this claim. -/
import Derived.Test.YtfmjpoibfpgfbaaNg
import Derived.Test.YtfmjpoibfpgfbaaNs
namespace Go.Proofs.Ytfmjpoibfpgfbaa.Ab
open Go.RowKit
set_option linter.unusedVariables false
set_option linter.unusedSimpArgs false
set_option maxRecDepth 100000
set_option maxHeartbeats 1000000
/-- spec.l26Draw -/
theorem ok11 : FOk Try.prog T 11 (spDr26 5 32) := by
  refine fokB (env := envL [(23, (spBelow 5)), (24, (spTape16 5 42)), (9, (spPut 32 42)), (25, (spOnce 5))]) (N := 35) tabT (envL_cons ok23 (envL_cons ok24 (envL_cons ok9 (envL_cons ok25 envL_nil)))) mixed Try.func11 rfl Try.call11 Try.ntmps11 ?_
  rintro cs args ⟨rows, i, h0, ok, he⟩ hwf
  obtain ⟨rfl, rfl⟩ : cs = curC 5 rows i h0 ∧ args = [] := by simpa only [List.cons.injEq, SV.tup.injEq, Prod.mk.injEq, true_and, and_true] using he
  refine ⟨by simp, ?_⟩
  clear hwf he
  have hb := belowR_in (rows := rows) (i := i) (h := h0) (n := 5) ⟨by decide, by decide⟩
  rw [Try.results11]
  repeat' first
    | (refine And.intro ?_ ?_)
    | (intro h; simp only [reduceCtorEq] at h; done)
    | (intro h; rw [h])
    | (intro h)
  all_goals first
    | (show lowEdges _ = true; kernel_rfl) | (show logOk _ _ = true; kernel_rfl) | exact True.intro | exact Or.inr rfl | exact Or.inl rfl
    | exact ⟨_, _, _, _, ok, ⟨by decide, by decide⟩, rfl⟩
    | (show List.length _ = _; rfl)
    | skip
  refine awp_loop (Q := _) [0, 3, 4, 5] [35] (fun n s => ∃ z : Int, s = ([.ptr 35 0 0, .val false [.sl true 32 (drK rows i h0 z.toNat).out], .val false [.i .i64 (belowR rows i h0 5)], .val false [.i .i64 z]], [(0, [.val false [.sl false 5 rows], .val false [.i .i64 (drK rows i h0 z.toNat).i], .val false [.i .i64 (drK rows i h0 z.toNat).h]])]) ∧ 0 ≤ z ∧ z ≤ belowR rows i h0 5 ∧ n = (belowR rows i h0 5).toNat - z.toNat) ?_ ?_
  · exact ⟨rfl, (belowR rows i h0 5).toNat - 0, 0, rfl, by omega, by omega, rfl⟩
  rintro n s ⟨z, rfl, h1, h2, h3⟩
  obtain ⟨k1, k2, k3⟩ := drK_ok (h := h0) ok z.toNat
  have hc := drC_in rows (drK rows i h0 z.toNat)
  have hv := drV_in rows (drK rows i h0 z.toNat)
  have hr := drR_w rows (drK rows i h0 z.toNat)
  repeat' first
    | (refine And.intro ?_ ?_)
    | (intro h; simp only [reduceCtorEq] at h; done)
    | (intro h; rw [h])
    | (intro h)
  all_goals first
    | (show lowEdges _ = true; kernel_rfl) | (show logOk _ _ = true; kernel_rfl) | exact True.intro | exact Or.inr rfl | exact Or.inl rfl
    | omega
    | exact of_decide_eq_true ‹_›
    | exact ⟨_, _, _, _, k1, ⟨by decide, by decide⟩, rfl⟩
    | exact ⟨_, _, _, _, byteI_ok k1, ⟨by decide, by decide⟩, rfl⟩
    | exact ⟨_, _, _, byteI_ok (byteI_ok k1), rfl⟩
    | exact ⟨_, drC rows (drK rows i h0 z.toNat), drV rows (drK rows i h0 z.toNat), drR rows (drK rows i h0 z.toNat), k2.flat, hr.2, small_inK (by omega), small_inK (by omega), by omega, rfl⟩
    | (refine ⟨(belowR rows i h0 5).toNat - (z + 1).toNat, by (have := of_decide_eq_true ‹decide (z < belowR rows i h0 5) = true›; omega), z + 1, ?_, by omega, by (have := of_decide_eq_true ‹decide (z < belowR rows i h0 5) = true›; omega), rfl⟩
       exact snapDr (fun d x => (([.ptr 35 0 0, .val false [.sl true 32 d.out], .val false [.i .i64 (belowR rows i h0 5)], .val false [.i .i64 x]], [(0, [.val false [.sl false 5 rows], .val false [.i .i64 d.i], .val false [.i .i64 d.h]])]) : Snap)) (drK_next rows i h0 h1) (wrap_i64_in (by omega) (by omega)))
    | exact rfl
    | (show List.length _ = _; rfl)
    | skip
  all_goals (try rw [drE_at h2 ‹decide (z < belowR rows i h0 5) = false›] at *)
  all_goals first
    | (have g := of_decide_eq_true ‹decide (((drE rows i h0).out.length : Int) > 1) = true›; omega)
    | (have g := of_decide_eq_true ‹decide (((drE rows i h0).out.length : Int) > 1) = true›; show 0 < _; omega)
    | exact resSl (dr26_yes (by assumption) h).1
    | exact resSl (dr26_no (by assumption) h).1
    | exact resSl (dr26_few (by assumption)).1
    | exact resCur (dr26_yes (by assumption) h).2
    | exact resCur (dr26_no (by assumption) h).2
    | exact resCur (dr26_few (by assumption)).2
    | skip
end Go.Proofs.Ytfmjpoibfpgfbaa.Ab
