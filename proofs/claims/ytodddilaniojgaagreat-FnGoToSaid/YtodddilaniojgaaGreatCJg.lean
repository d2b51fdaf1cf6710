/- What the laws of histories draw: printed by a program of this claim. -/
import Derived.Test.YtodddilaniojgaaGreatCJf
import Derived.Test.YtodddilaniojgaaGreatCNi
namespace Go.Proofs.YtodddilaniojgaaGreat.Ab
open Go.RowKit
set_option linter.unusedVariables false
set_option linter.unusedSimpArgs false
set_option maxRecDepth 100000
set_option maxHeartbeats 2000000
theorem any6 : AnyX Tryz.prog T 6 (fun a => ∃ rows : List (List D), rows.length ≤ 1048576 ∧ a = [argS 5 rows]) (fun x : (H3 × List (List D)) => .tup [(true, [.sl false 72 x.1.1, .sl false 55 x.1.2.1, .i .i64 x.1.2.2]), (false, [.sl false 82 x.2])]) (fun x : (H3 × List (List D)) => (SmH x.1 ∧ HIn 2 759 x.1) ∧ (∀ r ∈ x.2, EdD r) ∧ (x.2.length : Int) ≤ 3) := by
  obtain ⟨g20, k20, q20⟩ := any20
  obtain ⟨g21, k21, q21⟩ := any21
  refine AnyX.of ((([], [], 0), [])) (⟨⟨z_SmH, z_HIn⟩, all0, by decide⟩) (fokA (fun _ (x : (H3 × List (List D))) => .tup [(true, [.sl false 72 x.1.1, .sl false 55 x.1.2.1, .i .i64 x.1.2.2]), (false, [.sl false 82 x.2])]) (post := fun _ (x : (H3 × List (List D))) => (SmH x.1 ∧ HIn 2 759 x.1) ∧ (∀ r ∈ x.2, EdD r) ∧ (x.2.length : Int) ≤ 3) (env := envL [(19, (spNewC 5)), (20, spD 5 (fun m => m = []) (fun x : H3 => .val true [.sl false 72 x.1, .sl false 55 x.2.1, .i .i64 x.2.2]) g20), (21, spD 5 (fun m => ∃ (l : List (List D)) (most : Int), (l.length ≤ 1048576 ∧ 0 ≤ most ∧ most ≤ 3) ∧ m = [nbA false 72 l, .val false [.i .i64 most]]) (fun x : List (List D) => .val false [.sl true 82 x]) g21)]) (N := 15) tabT (envL_cons ok19 (envL_cons k20 (envL_cons k21 envL_nil))) mixed Tryz.func6 rfl Tryz.call6 Tryz.ntmps6 ?_)
  rintro args ⟨rows, hr, rfl⟩ hwf
  refine ⟨by simp, ?_⟩
  clear hwf
  rw [Tryz.results6]
  repeat' first
    | (refine And.intro ?_ ?_)
    | (intro h; simp only [reduceCtorEq] at h; done)
    | (intro h; rw [h])
    | (intro h)
  all_goals first
    | (show lowEdges _ = true; kernel_rfl) | (show logOk _ _ = true; kernel_rfl) | exact True.intro | exact Or.inr rfl | exact Or.inl rfl
    | exact ⟨_, hr, rfl⟩
    | (show List.length _ = _; rfl)
    | refine ⟨_, _, _, _, ?_, ⟨by decide, by decide⟩, rfl⟩
    | refine ⟨_, _, _, _, ?_, rfl, rfl⟩
    | refine ⟨_, _, _, _, ?_, ⟨_, _, ⟨(q20 _ _ _ _ (by repeat (first | exact ok | exact ok1 | exact ok2 | exact cur0 hr | refine byteI_ok ?_ | refine (q20 _ _ _ _ ?_ rfl).1)) rfl).2.1.1, by decide, by decide⟩, rfl⟩, rfl⟩
    | (refine ⟨((_, _, _), _), ⟨?_, ?_⟩, rfl⟩; exact (q20 _ _ _ _ (by repeat (first | exact ok | exact ok1 | exact ok2 | exact cur0 hr | refine byteI_ok ?_ | refine (q20 _ _ _ _ ?_ rfl).1 | refine (q21 _ _ _ _ ?_ ⟨_, _, ⟨(q20 _ _ _ _ (by repeat (first | exact ok | exact ok1 | exact ok2 | exact cur0 hr | refine byteI_ok ?_ | refine (q20 _ _ _ _ ?_ rfl).1)) rfl).2.1.1, by decide, by decide⟩, rfl⟩).1)) rfl).2; exact (q21 _ _ _ _ (by repeat (first | exact ok | exact ok1 | exact ok2 | exact cur0 hr | refine byteI_ok ?_ | refine (q20 _ _ _ _ ?_ rfl).1 | refine (q21 _ _ _ _ ?_ ⟨_, _, ⟨(q20 _ _ _ _ (by repeat (first | exact ok | exact ok1 | exact ok2 | exact cur0 hr | refine byteI_ok ?_ | refine (q20 _ _ _ _ ?_ rfl).1)) rfl).2.1.1, by decide, by decide⟩, rfl⟩).1)) ⟨_, _, ⟨(q20 _ _ _ _ (by repeat (first | exact ok | exact ok1 | exact ok2 | exact cur0 hr | refine byteI_ok ?_ | refine (q20 _ _ _ _ ?_ rfl).1 | refine (q21 _ _ _ _ ?_ ⟨_, _, ⟨(q20 _ _ _ _ (by repeat (first | exact ok | exact ok1 | exact ok2 | exact cur0 hr | refine byteI_ok ?_ | refine (q20 _ _ _ _ ?_ rfl).1)) rfl).2.1.1, by decide, by decide⟩, rfl⟩).1)) rfl).2.1.1, by decide, by decide⟩, rfl⟩).2)
    | (refine ⟨((_, _, _), _), ⟨?_, ?_⟩, rfl, True.intro⟩; exact (q20 _ _ _ _ (by repeat (first | exact ok | exact ok1 | exact ok2 | exact cur0 hr | refine byteI_ok ?_ | refine (q20 _ _ _ _ ?_ rfl).1 | refine (q21 _ _ _ _ ?_ ⟨_, _, ⟨(q20 _ _ _ _ (by repeat (first | exact ok | exact ok1 | exact ok2 | exact cur0 hr | refine byteI_ok ?_ | refine (q20 _ _ _ _ ?_ rfl).1)) rfl).2.1.1, by decide, by decide⟩, rfl⟩).1)) rfl).2; exact (q21 _ _ _ _ (by repeat (first | exact ok | exact ok1 | exact ok2 | exact cur0 hr | refine byteI_ok ?_ | refine (q20 _ _ _ _ ?_ rfl).1 | refine (q21 _ _ _ _ ?_ ⟨_, _, ⟨(q20 _ _ _ _ (by repeat (first | exact ok | exact ok1 | exact ok2 | exact cur0 hr | refine byteI_ok ?_ | refine (q20 _ _ _ _ ?_ rfl).1)) rfl).2.1.1, by decide, by decide⟩, rfl⟩).1)) ⟨_, _, ⟨(q20 _ _ _ _ (by repeat (first | exact ok | exact ok1 | exact ok2 | exact cur0 hr | refine byteI_ok ?_ | refine (q20 _ _ _ _ ?_ rfl).1 | refine (q21 _ _ _ _ ?_ ⟨_, _, ⟨(q20 _ _ _ _ (by repeat (first | exact ok | exact ok1 | exact ok2 | exact cur0 hr | refine byteI_ok ?_ | refine (q20 _ _ _ _ ?_ rfl).1)) rfl).2.1.1, by decide, by decide⟩, rfl⟩).1)) rfl).2.1.1, by decide, by decide⟩, rfl⟩).2)
    | skip
  all_goals repeat (first | exact ok | exact ok1 | exact ok2 | exact cur0 hr | refine byteI_ok ?_ | refine (q20 _ _ _ _ ?_ rfl).1 | refine (q21 _ _ _ _ ?_ ⟨_, _, ⟨(q20 _ _ _ _ (by repeat (first | exact ok | exact ok1 | exact ok2 | exact cur0 hr | refine byteI_ok ?_ | refine (q20 _ _ _ _ ?_ rfl).1)) rfl).2.1.1, by decide, by decide⟩, rfl⟩).1)
theorem wrap2 {n : Nat} (h : n ≤ 1000) : IntKind.i64.wrap ((n : Int) + 2) ≤ 1048577 := by
  rw [IntWalk.i64_in _ (by omega)]; omega
theorem any36 : AnyX Tryz.prog T 36 (fun a => ∃ rows : List (List D), rows.length ≤ 1048576 ∧ a = [argS 5 rows]) (fun x : (H3 × Int) => .tup [(true, [.sl false 72 x.1.1, .sl false 55 x.1.2.1, .i .i64 x.1.2.2]), (false, [.i .i64 x.2])]) (fun x : (H3 × Int) => SmH x.1 ∧ HIn 2 759 x.1) := by
  obtain ⟨g20, k20, q20⟩ := any20
  obtain ⟨g44z, k44z, q44z⟩ := any44z
  refine AnyX.of ((([], [], 0), 0)) (⟨z_SmH, z_HIn⟩) (fokA (fun _ (x : (H3 × Int)) => .tup [(true, [.sl false 72 x.1.1, .sl false 55 x.1.2.1, .i .i64 x.1.2.2]), (false, [.i .i64 x.2])]) (post := fun _ (x : (H3 × Int)) => SmH x.1 ∧ HIn 2 759 x.1) (env := envL [(19, (spNewC 5)), (20, spD 5 (fun m => m = []) (fun x : H3 => .val true [.sl false 72 x.1, .sl false 55 x.2.1, .i .i64 x.2.2]) g20), (44, spD 5 (fun m => ∃ n : Int, n ≤ 1048577 ∧ m = [.val false [.i .i64 n]]) (fun x : Int => .val false [.i .i64 x]) g44z)]) (N := 18) tabT (envL_cons ok19 (envL_cons k20 (envL_cons k44z envL_nil))) mixed Tryz.func36 rfl Tryz.call36 Tryz.ntmps36 ?_)
  rintro args ⟨rows, hr, rfl⟩ hwf
  refine ⟨by simp, ?_⟩
  clear hwf
  rw [Tryz.results36]
  repeat' first
    | (refine And.intro ?_ ?_)
    | (intro h; simp only [reduceCtorEq] at h; done)
    | (intro h; rw [h])
    | (intro h)
  all_goals first
    | (show lowEdges _ = true; kernel_rfl) | (show logOk _ _ = true; kernel_rfl) | exact True.intro | exact Or.inr rfl | exact Or.inl rfl
    | exact ⟨_, hr, rfl⟩
    | (show List.length _ = _; rfl)
    | refine ⟨_, _, _, _, ?_, ⟨by decide, by decide⟩, rfl⟩
    | refine ⟨_, _, _, _, ?_, rfl, rfl⟩
    | refine ⟨_, _, _, _, ?_, ⟨_, wrap2 (q20 _ _ _ _ (by repeat (first | exact ok | exact ok1 | exact ok2 | exact cur0 hr | refine byteI_ok ?_ | refine (q20 _ _ _ _ ?_ rfl).1)) rfl).2.1.2.1, rfl⟩, rfl⟩
    | (refine ⟨((_, _, _), _), ?_, rfl⟩; refine (q20 _ _ _ _ ?_ rfl).2)
    | (refine ⟨((_, _, _), _), ?_, rfl, True.intro⟩; refine (q20 _ _ _ _ ?_ rfl).2)
    | skip
  all_goals repeat (first | exact ok | exact ok1 | exact ok2 | exact cur0 hr | refine byteI_ok ?_ | refine (q20 _ _ _ _ ?_ rfl).1 | refine (q44z _ _ _ _ ?_ ⟨_, wrap2 (q20 _ _ _ _ (by repeat (first | exact ok | exact ok1 | exact ok2 | exact cur0 hr | refine byteI_ok ?_ | refine (q20 _ _ _ _ ?_ rfl).1)) rfl).2.1.2.1, rfl⟩).1)
theorem any14 : AnyX Tryz.prog T 14 (fun a => ∃ rows : List (List D), rows.length ≤ 1048576 ∧ a = [argS 5 rows]) (fun x : (H3 × Int) => .tup [(true, [.sl false 72 x.1.1, .sl false 55 x.1.2.1, .i .i64 x.1.2.2]), (false, [.i .i64 x.2])]) (fun x : (H3 × Int) => SmH x.1 ∧ HIn 2 759 x.1) := by
  obtain ⟨g36, k36, q36⟩ := any36
  refine AnyX.of ((([], [], 0), 0)) (⟨z_SmH, z_HIn⟩) (fokA (fun _ (x : (H3 × Int)) => .tup [(true, [.sl false 72 x.1.1, .sl false 55 x.1.2.1, .i .i64 x.1.2.2]), (false, [.i .i64 x.2])]) (post := fun _ (x : (H3 × Int)) => SmH x.1 ∧ HIn 2 759 x.1) (env := envL [(36, { pre := fun a => ∃ rows : List (List D), rows.length ≤ 1048576 ∧ a = [argS 5 rows], res := fun a => (fun x : (H3 × Int) => .tup [(true, [.sl false 72 x.1.1, .sl false 55 x.1.2.1, .i .i64 x.1.2.2]), (false, [.i .i64 x.2])]) (g36 a) })]) (N := 8) tabT (envL_cons k36 envL_nil) mixed Tryz.func14 rfl Tryz.call14 Tryz.ntmps14 ?_)
  rintro args ⟨rows, hr, rfl⟩ hwf
  refine ⟨by simp, ?_⟩
  clear hwf
  rw [Tryz.results14]
  repeat' first
    | (refine And.intro ?_ ?_)
    | (intro h; simp only [reduceCtorEq] at h; done)
    | (intro h; rw [h])
    | (intro h)
  all_goals first
    | (show lowEdges _ = true; kernel_rfl) | (show logOk _ _ = true; kernel_rfl) | exact True.intro | exact Or.inr rfl | exact Or.inl rfl
    | exact ⟨_, hr, rfl⟩
    | exact ⟨((_, _, _), _), q36 _, rfl, True.intro⟩
    | exact ⟨((_, _, _), _), q36 _, rfl⟩
    | skip
end Go.Proofs.YtodddilaniojgaaGreat.Ab
