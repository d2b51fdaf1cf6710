/- Small draws: printed by a program of this claim. -/
import Derived.Test.YtodddilaniojgaaGreatCDa
namespace Go.Proofs.YtodddilaniojgaaGreat.Ab
open Go.RowKit
set_option linter.unusedVariables false
set_option linter.unusedSimpArgs false
set_option maxRecDepth 100000
set_option maxHeartbeats 1000000
theorem ok62 : FOk Tryz.prog T 62 (spByte 5) := by
  refine fokB (env := envL []) (N := 58) tabT envL_nil mixed Tryz.func62 rfl Tryz.call62 Tryz.ntmps62 ?_
  rintro cs args ⟨rows, i, h0, ok, he⟩ hwf
  obtain ⟨rfl, rfl⟩ : cs = curC 5 rows i h0 ∧ args = [] := by simpa only [List.cons.injEq, SV.tup.injEq, Prod.mk.injEq, true_and, and_true] using he
  refine ⟨by simp, ?_⟩
  clear hwf he
  rw [Tryz.results62]
  repeat' first
    | (refine And.intro ?_ ?_)
    | (intro h; simp only [reduceCtorEq] at h; done)
    | (intro h; rw [h])
    | (intro h)
  all_goals first
    | (show lowEdges _ = true; kernel_rfl) | (show logOk _ _ = true; kernel_rfl) | exact True.intro | exact Or.inr rfl | exact Or.inl rfl
    | exact shr33 _ | exact (shr33 _).1 | exact (shr33 _).2 | exact (shr45 _).1 | exact (shr45 _).2 | decide | exact ok.1 | exact of_decide_eq_true h
    | exact congrArg (fun z => [CV.i .i64 z]) (resByte_yes h)
    | exact congrArg (fun z => [CV.i .i64 z]) (resByte_no h)
    | exact curI_yes ok h
    | exact curI_no h
theorem ok44 : FOk Tryz.prog T 44 (spBelow 5) := by
  refine fokB (env := envL [(62, (spByte 5))]) (N := 37) tabT (envL_cons ok62 envL_nil) mixed Tryz.func44 rfl Tryz.call44 Tryz.ntmps44 ?_
  rintro cs args ⟨rows, i, h0, n, ok, hn, he⟩ hwf
  obtain ⟨rfl, rfl⟩ : cs = curC 5 rows i h0 ∧ args = [.val false [.i .i64 n]] := by simpa only [List.cons.injEq, SV.tup.injEq, Prod.mk.injEq, true_and, and_true] using he
  refine ⟨by simp, ?_⟩
  clear hwf he
  rw [Tryz.results44]
  repeat' first
    | (refine And.intro ?_ ?_)
    | (intro h; simp only [reduceCtorEq] at h; done)
    | (intro h; rw [h])
    | (intro h)
  all_goals first
    | (show lowEdges _ = true; kernel_rfl) | (show logOk _ _ = true; kernel_rfl) | exact True.intro | exact Or.inr rfl | exact Or.inl rfl
    | exact ⟨_, _, _, ok, rfl⟩
    | exact (belowK hn).1 | exact (belowK hn).2
    | (have := hn.1; have := hn.2; have h2 := of_decide_eq_true h; omega)
    | (have := hn.1; have := hn.2; have h2 := of_decide_eq_false h; omega)
    | (have := hn.1; omega)
    | rfl
theorem ok45 : FOk Tryz.prog T 45 (spOnce 5) := by
  refine fokB (env := envL [(44, (spBelow 5))]) (N := 9) tabT (envL_cons ok44 envL_nil) mixed Tryz.func45 rfl Tryz.call45 Tryz.ntmps45 ?_
  rintro cs args ⟨rows, i, h0, n, ok, hn, he⟩ hwf
  obtain ⟨rfl, rfl⟩ : cs = curC 5 rows i h0 ∧ args = [.val false [.i .i64 n]] := by simpa only [List.cons.injEq, SV.tup.injEq, Prod.mk.injEq, true_and, and_true] using he
  refine ⟨by simp, ?_⟩
  clear hwf he
  rw [Tryz.results45]
  repeat' first
    | (refine And.intro ?_ ?_)
    | (intro h; simp only [reduceCtorEq] at h; done)
    | (intro h; rw [h])
    | (intro h)
  all_goals first
    | (show lowEdges _ = true; kernel_rfl) | (show logOk _ _ = true; kernel_rfl) | exact True.intro | exact Or.inr rfl | exact Or.inl rfl
    | exact ⟨_, _, _, _, ok, hn, rfl⟩
    | rfl
theorem ok77 : FOk Tryz.prog T 77 (spPick 5 9) := by
  refine fokB (env := envL [(44, (spBelow 5))]) (N := 12) tabT (envL_cons ok44 envL_nil) mixed Tryz.func77 rfl Tryz.call77 Tryz.ntmps77 ?_
  rintro cs args ⟨rows, i, h0, list, ok, hn, he⟩ hwf
  obtain ⟨rfl, rfl⟩ : cs = curC 5 rows i h0 ∧ args = [argS 9 list] := by simpa only [List.cons.injEq, SV.tup.injEq, Prod.mk.injEq, true_and, and_true] using he
  refine ⟨by simp, ?_⟩
  clear hwf he
  rw [Tryz.results77]
  repeat' first
    | (refine And.intro ?_ ?_)
    | (intro h; simp only [reduceCtorEq] at h; done)
    | (intro h; rw [h])
    | (intro h)
  all_goals first
    | (show lowEdges _ = true; kernel_rfl) | (show logOk _ _ = true; kernel_rfl) | exact True.intro | exact Or.inr rfl | exact Or.inl rfl
    | exact ⟨_, _, _, _, ok, hn, rfl⟩
    | exact (belowR_in hn).1 | exact (belowR_in hn).2
    | rfl
end Go.Proofs.YtodddilaniojgaaGreat.Ab
