/- Drawn reads and tapes: printed by a program of this claim. -/
import Derived.Test.YtfmjpoibfpgfbaaNf
import Derived.Test.YtfmjpoibfpgfbaaNp
namespace Go.Proofs.Ytfmjpoibfpgfbaa.Ab
open Go.RowKit
set_option linter.unusedVariables false
set_option linter.unusedSimpArgs false
set_option maxRecDepth 100000
set_option maxHeartbeats 1000000
/-- spec.NumberValue -/
theorem ok36 : FOk Try.prog T 36 (spNum1 [.i .i64, .i .i64, .i .i64, .s, .l 40, .l 9, .l 74]) := by
  refine fok (env := envL []) (N := 5) tabT envL_nil mixed Try.func36 rfl Try.call36 Try.ntmps36 ?_
  rintro args ⟨n, rfl⟩ hwf
  clear hwf
  refine ⟨by simp, ?_⟩
  rw [Try.results36]
  repeat' first
    | (refine And.intro ?_ ?_)
    | (intro h; simp only [reduceCtorEq] at h; done)
    | (intro h; rw [h])
    | (intro h)
  all_goals first
    | (show lowEdges _ = true; kernel_rfl) | (show logOk _ _ = true; kernel_rfl) | exact True.intro | exact Or.inr rfl | exact Or.inl rfl
    | rfl
/-- spec.l14Read -/
theorem ok35 : FOk Try.prog T 35 (spRd14 T 5 [.i .i64, .i .i64, .i .i64, .s, .i .i64, .i .i64, .i .i64, .s, .l 40, .l 9, .l 74]) := by
  refine fokB (env := envL [(23, (spBelow 5)), (41, (spPick 5 9))]) (N := 14) tabT (envL_cons ok23 (envL_cons ok41 envL_nil)) mixed Try.func35 rfl Try.call35 Try.ntmps35 ?_
  rintro cs args ⟨rows, i, h0, ok, he⟩ hwf
  obtain ⟨rfl, rfl⟩ : cs = curC 5 rows i h0 ∧ args = [] := by simpa only [List.cons.injEq, SV.tup.injEq, Prod.mk.injEq, true_and, and_true] using he
  refine ⟨by simp, ?_⟩
  clear hwf he
  rw [Try.results35]
  repeat' first
    | (refine And.intro ?_ ?_)
    | (intro h; simp only [reduceCtorEq] at h; done)
    | (intro h; rw [h])
    | (intro h)
  all_goals first
    | (show lowEdges _ = true; kernel_rfl) | (show logOk _ _ = true; kernel_rfl) | exact True.intro | exact Or.inr rfl | exact Or.inl rfl
    | exact ⟨_, _, _, _, ok, ⟨by decide, by decide⟩, rfl⟩
    | exact ⟨_, _, _, _, curOk ok 1, ⟨by decide, by decide⟩, rfl⟩
    | exact ⟨_, _, _, pick4, curOk ok 2, ⟨by decide, by decide⟩, rfl⟩
    | exact ⟨_, _, _, _, curOk ok 3, ⟨by decide, by decide⟩, rfl⟩
    | rfl
    | skip
/-- spec.l16Tape -/
theorem ok24 : FOk Try.prog T 24 (spTape16 5 42) := by
  refine fokB (env := envL [(23, (spBelow 5)), (35, (spRd14 T 5 [.i .i64, .i .i64, .i .i64, .s, .i .i64, .i .i64, .i .i64, .s, .l 40, .l 9, .l 74])), (36, (spNum1 [.i .i64, .i .i64, .i .i64, .s, .l 40, .l 9, .l 74]))]) (N := 34) tabT (envL_cons ok23 (envL_cons ok35 (envL_cons ok36 envL_nil))) mixed Try.func24 rfl Try.call24 Try.ntmps24 ?_
  rintro cs args ⟨rows, i, h0, ok, he⟩ hwf
  obtain ⟨rfl, rfl⟩ : cs = curC 5 rows i h0 ∧ args = [] := by simpa only [List.cons.injEq, SV.tup.injEq, Prod.mk.injEq, true_and, and_true] using he
  refine ⟨by simp, ?_⟩
  clear hwf he
  have hb := belowR_in (rows := rows) (i := i) (h := h0) (n := 4) ⟨by decide, by decide⟩
  rw [Try.results24]
  repeat' first
    | (refine And.intro ?_ ?_)
    | (intro h; simp only [reduceCtorEq] at h; done)
    | (intro h; rw [h])
    | (intro h)
  all_goals first
    | (show lowEdges _ = true; kernel_rfl) | (show logOk _ _ = true; kernel_rfl) | exact True.intro | exact Or.inr rfl | exact Or.inl rfl
    | exact ⟨_, _, _, _, ok, ⟨by decide, by decide⟩, rfl⟩
    | (show List.length _ = _; rfl)
    | skip
  refine awp_loop (Q := _) [0, 3, 4, 5] [34] (fun n s => ∃ z : Int, s = ([.ptr 34 0 0, .val false [.sl true 42 (tp16 rows i h0 z)], .val false [.i .i64 (belowR rows i h0 4)], .val false [.i .i64 z]], [(0, [.val false [.sl false 5 rows], .val false [.i .i64 (curI rows i (1 + 4 * z.toNat))], .val false [.i .i64 (curH h0 (1 + 4 * z.toNat))]])]) ∧ 0 ≤ z ∧ z ≤ belowR rows i h0 4 ∧ n = (belowR rows i h0 4).toNat - z.toNat) ?_ ?_
  · exact ⟨rfl, (belowR rows i h0 4).toNat - 0, 0, rfl, by omega, by omega, rfl⟩
  rintro n s ⟨z, rfl, h1, h2, h3⟩
  have hl := tp16_len rows i h0 z
  repeat' first
    | (refine And.intro ?_ ?_)
    | (intro h; simp only [reduceCtorEq] at h; done)
    | (intro h; rw [h])
    | (intro h)
  all_goals first
    | (show lowEdges _ = true; kernel_rfl) | (show logOk _ _ = true; kernel_rfl) | exact True.intro | exact Or.inr rfl | exact Or.inl rfl
    | omega
    | exact of_decide_eq_true ‹_›
    | exact ⟨_, _, _, curOk ok _, rfl⟩
    | exact ⟨_, rfl⟩
    | (show (tp16 rows i h0 z).length + 1 ≤ maxLen; rw [hl]; simp only [maxLen]; omega)
    | (show ((tp16 rows i h0 z).length + 1) * 152 ≤ 140737488355328; rw [hl]; omega)
    | (have hz : z < belowR rows i h0 4 := of_decide_eq_true ‹decide (z < belowR rows i h0 4) = true›
       rename_i g2
       refine ⟨(belowR rows i h0 4).toNat - (z + 1).toNat, by omega, z + 1, ?_, by omega, by omega, rfl⟩
       first
            | exact snapC (fun r I H x => (([.ptr 34 0 0, .val false [.sl true 42 r], .val false [.i .i64 (belowR rows i h0 4)], .val false [.i .i64 x]], [(0, [.val false [.sl false 5 rows], .val false [.i .i64 I], .val false [.i .i64 H]])]) : Snap)) (tp16_next h1 (mod16_eq (if_neg (ne_of g2)).symm (if_neg (ne_of h)).symm)) (cur_next h1) (wrap_i64_in (by omega) (by omega))
            | exact snapC (fun r I H x => (([.ptr 34 0 0, .val false [.sl true 42 r], .val false [.i .i64 (belowR rows i h0 4)], .val false [.i .i64 x]], [(0, [.val false [.sl false 5 rows], .val false [.i .i64 I], .val false [.i .i64 H]])]) : Snap)) (tp16_next h1 (mod16_eq (if_neg (ne_of g2)).symm (if_pos (eq_of h)).symm)) (cur_next h1) (wrap_i64_in (by omega) (by omega))
            | exact snapC (fun r I H x => (([.ptr 34 0 0, .val false [.sl true 42 r], .val false [.i .i64 (belowR rows i h0 4)], .val false [.i .i64 x]], [(0, [.val false [.sl false 5 rows], .val false [.i .i64 I], .val false [.i .i64 H]])]) : Snap)) (tp16_next h1 (mod16_eq (if_pos (eq_of g2)).symm (if_neg (ne_of h)).symm)) (cur_next h1) (wrap_i64_in (by omega) (by omega))
            | exact snapC (fun r I H x => (([.ptr 34 0 0, .val false [.sl true 42 r], .val false [.i .i64 (belowR rows i h0 4)], .val false [.i .i64 x]], [(0, [.val false [.sl false 5 rows], .val false [.i .i64 I], .val false [.i .i64 H]])]) : Snap)) (tp16_next h1 (mod16_eq (if_pos (eq_of g2)).symm (if_pos (eq_of h)).symm)) (cur_next h1) (wrap_i64_in (by omega) (by omega)))
    | exact rfl
    | (have hz : ¬ z < belowR rows i h0 4 := of_decide_eq_false ‹decide (z < belowR rows i h0 4) = false›
       have e : z = belowR rows i h0 4 := by omega
       first
         | exact congrArg (fun q => [CV.sl true 42 (tp16 rows i h0 q)]) e
         | exact congrArg (fun q => curC 5 rows (curI rows i (1 + 4 * q.toNat)) (curH h0 (1 + 4 * q.toNat))) e)
    | skip
end Go.Proofs.Ytfmjpoibfpgfbaa.Ab
