/- A history equals itself: printed by a program of this claim. -/
import Derived.Test.YtodddilaniojgaaGreatCHz
namespace Go.Proofs.YtodddilaniojgaaGreat.Ab
open Go.RowKit
set_option linter.unusedVariables false
set_option linter.unusedSimpArgs false
set_option maxRecDepth 100000
set_option maxHeartbeats 2000000
def spSame (pre : SV → Prop) : FSpec where
  pre args := ∃ v, pre v ∧ args = [v, v]
  res _ := .val false [.b true]
theorem eqC_refl (r : List D) : eqC r r = true := by
  unfold eqC
  simp [eqDs, eqD]
theorem eqNb_refl (l : List (List D)) : eqNb l l = true := by
  unfold eqNb
  rw [Bool.and_eq_true]
  exact ⟨by simp, allB_iff.2 fun i _ => eqC_refl _⟩
theorem bb {b : Bool} (h : (b != b) = true) : False := by simp at h
theorem ib {a : Int} (h : (a != a) = true) : False := by simp at h
theorem eqE_refl (a b c d e : Int) (s t : ByteArray) (n : Int) : eqDs [.i .i64, .i .i64, .i .i64, .i .i64, .i .i64, .s, .s, .i .i64] [.i a, .i b, .i c, .i d, .i e, .s s, .s t, .i n] [.i a, .i b, .i c, .i d, .i e, .s s, .s t, .i n] = true := by
  simp [eqDs, eqD]
theorem neE {l : List CT} {a b c d e : Int} {s t : ByteArray} {n : Int} (hl : l = [.i .i64, .i .i64, .i .i64, .i .i64, .i .i64, .s, .s, .i .i64]) (h : (!eqDs l [.i a, .i b, .i c, .i d, .i e, .s s, .s t, .i n] [.i a, .i b, .i c, .i d, .i e, .s s, .s t, .i n]) = true) : False := by
  subst hl
  rw [eqE_refl] at h
  simp at h
theorem xk74 : FOk Tryz.prog T 74 (spSame fun v => ∃ es : List (List D), v = argS 82 es) := by
  refine fok (env := envL []) (N := 26) tabT envL_nil mixed Tryz.func74 rfl Tryz.call74 Tryz.ntmps74 ?_
  rintro args ⟨v, ⟨es, rfl⟩, rfl⟩ hwf
  have hl : es.length ≤ maxLen := (show WfD T (.l 82) (.l es) from arg0 hwf (List.mem_singleton_self _)).len
  refine ⟨by simp, ?_⟩
  clear hwf
  rw [Tryz.results74]
  repeat' first
    | (refine And.intro ?_ ?_)
    | (intro h; simp only [reduceCtorEq] at h; done)
    | (intro h; rw [h])
    | (intro h)
  all_goals first
    | (show lowEdges _ = true; kernel_rfl) | (show logOk _ _ = true; kernel_rfl) | exact True.intro | exact Or.inr rfl | exact Or.inl rfl
    | exact (bb (by with_reducible assumption)).elim
    | exact (ib (by with_reducible assumption)).elim
    | exact absurd (show decide ((0 : Int) < (([] : List (List D)).length : Int)) = true by with_reducible assumption) (by decide)
    | skip
  refine awp_loop (Q := _) [0, 1, 5] [] (fun n st => ∃ i : Nat, st = ([argS 82 es, argS 82 es, iA (i : Int)], []) ∧ (∀ j, j < i → true = true) ∧ i ≤ es.length ∧ n = es.length - i) ?_ ?_
  · exact ⟨rfl, es.length, 0, rfl, nolt _, Nat.zero_le _, rfl⟩
  rintro n st ⟨i, rfl, hI, hle, rfl⟩
  repeat' first
    | (refine And.intro ?_ ?_)
    | (intro h; simp only [reduceCtorEq] at h; done)
    | (intro h; rw [h])
    | (intro h)
  all_goals first
    | (show lowEdges _ = true; kernel_rfl) | (show logOk _ _ = true; kernel_rfl) | exact True.intro | exact Or.inr rfl | exact Or.inl rfl
    | with_reducible exact Int.natCast_nonneg _
    | (have hi : i < es.length := ltN (by with_reducible assumption)
       first
         | with_reducible exact of_decide_eq_true (by with_reducible assumption)
         | (show (Int.toNat (i : Int)) < _; rw [Int.toNat_natCast]; exact hi)
         | (show (i : Int) < _; omega)
           | exact rfl
           | exact (neE rfl h).elim
           | (refine ⟨es.length - (i + 1), by omega, i + 1, ?_, all_succ hI (P := fun j => true) ?_, by omega, rfl⟩
              · exact congrArg (fun z : Int => (([argS 82 es, argS 82 es, iA z], []) : Snap)) (wrapN hi hl)
              · exact rfl))
    | (have hi : ¬ i < es.length := nltN (by with_reducible assumption)
       first
           | exact rfl
           | exact (neE rfl h).elim
           | (refine ⟨es.length - (i + 1), by omega, i + 1, ?_, all_succ hI (P := fun j => true) ?_, by omega, rfl⟩
              · exact congrArg (fun z : Int => (([argS 82 es, argS 82 es, iA z], []) : Snap)) (wrapN hi hl)
              · exact rfl))
    | (show Alive _ _; exact rfl)
    | exact absurd (show (!false) = false by with_reducible assumption) (by decide)
    | exact absurd (show (!true) = true by with_reducible assumption) (by decide)
    | skip
theorem xk70 : FOk Tryz.prog T 70 (spSame fun v => v = .val true [.i .i64 0, .i .i64 0, .sl false 118 []]) := by
  refine fok (env := envL []) (N := 45) tabT envL_nil mixed Tryz.func70 rfl Tryz.call70 Tryz.ntmps70 ?_
  rintro args ⟨v, rfl, rfl⟩ hwf
  refine ⟨by simp, ?_⟩
  clear hwf
  rw [Tryz.results70]
  repeat' first
    | (refine And.intro ?_ ?_)
    | (intro h; simp only [reduceCtorEq] at h; done)
    | (intro h; rw [h])
    | (intro h)
  all_goals first
    | (show lowEdges _ = true; kernel_rfl) | (show logOk _ _ = true; kernel_rfl) | exact True.intro | exact Or.inr rfl | exact Or.inl rfl
    | exact (bb (by with_reducible assumption)).elim
    | exact (ib (by with_reducible assumption)).elim
    | exact absurd (show decide ((0 : Int) < (([] : List (List D)).length : Int)) = true by with_reducible assumption) (by decide)
    | skip
  refine awp_loop (Q := _) [2, 3, 5] [2, 3] (fun n st => st = ([.ptr 2 1 0, .ptr 3 1 0, iA 0], [(1, [.val false [.i .i64 0], .val false [.i .i64 0], .val false [.sl false 118 []]]), (1, [.val false [.i .i64 0], .val false [.i .i64 0], .val false [.sl false 118 []]])]) ∧ n = 0) ?_ ?_
  · exact ⟨rfl, 0, rfl, rfl⟩
  rintro n st ⟨rfl, rfl⟩
  repeat' first
    | (refine And.intro ?_ ?_)
    | (intro h; simp only [reduceCtorEq] at h; done)
    | (intro h; rw [h])
    | (intro h)
  all_goals first
    | (show lowEdges _ = true; kernel_rfl) | (show logOk _ _ = true; kernel_rfl) | exact True.intro | exact Or.inr rfl | exact Or.inl rfl
    | exact absurd (show decide ((0 : Int) < (([] : List (List D)).length : Int)) = true by with_reducible assumption) (by decide)
    | exact rfl
    | (show Alive _ _; exact rfl)
    | skip
theorem xk71 : FOk Tryz.prog T 71 (spSame fun v => v = .val false [.sl false 121 []]) := by
  refine fok (env := envL []) (N := 55) tabT envL_nil mixed Tryz.func71 rfl Tryz.call71 Tryz.ntmps71 ?_
  rintro args ⟨v, rfl, rfl⟩ hwf
  refine ⟨by simp, ?_⟩
  clear hwf
  rw [Tryz.results71]
  repeat' first
    | (refine And.intro ?_ ?_)
    | (intro h; simp only [reduceCtorEq] at h; done)
    | (intro h; rw [h])
    | (intro h)
  all_goals first
    | (show lowEdges _ = true; kernel_rfl) | (show logOk _ _ = true; kernel_rfl) | exact True.intro | exact Or.inr rfl | exact Or.inl rfl
    | exact (bb (by with_reducible assumption)).elim
    | exact (ib (by with_reducible assumption)).elim
    | exact absurd (show decide ((0 : Int) < (([] : List (List D)).length : Int)) = true by with_reducible assumption) (by decide)
    | skip
  refine awp_loop (Q := _) [0, 1, 5] [] (fun n st => st = ([.val false [.sl false 121 []], .val false [.sl false 121 []], iA 0], []) ∧ n = 0) ?_ ?_
  · exact ⟨rfl, 0, rfl, rfl⟩
  rintro n st ⟨rfl, rfl⟩
  repeat' first
    | (refine And.intro ?_ ?_)
    | (intro h; simp only [reduceCtorEq] at h; done)
    | (intro h; rw [h])
    | (intro h)
  all_goals first
    | (show lowEdges _ = true; kernel_rfl) | (show logOk _ _ = true; kernel_rfl) | exact True.intro | exact Or.inr rfl | exact Or.inl rfl
    | exact absurd (show decide ((0 : Int) < (([] : List (List D)).length : Int)) = true by with_reducible assumption) (by decide)
    | exact rfl
    | (show Alive _ _; exact rfl)
    | skip
theorem xk56 : FOk Tryz.prog T 56 (spSame fun v => v = .val true [.sl false 72 [], .i .i64 0, .i .i64 0, .sl false 118 [], .sl false 121 [], .sl false 105 [], .i .i64 0, .i .i64 0, .i .i64 0]) := by
  refine fok (env := envL [(35, (spEqN 72)), (70, (spSame fun v => v = .val true [.i .i64 0, .i .i64 0, .sl false 118 []])), (71, (spSame fun v => v = .val false [.sl false 121 []]))]) (N := 117) tabT (envL_cons xk35 (envL_cons xk70 (envL_cons xk71 envL_nil))) mixed Tryz.func56 rfl Tryz.call56 Tryz.ntmps56 ?_
  rintro args ⟨v, rfl, rfl⟩ hwf
  refine ⟨by simp, ?_⟩
  clear hwf
  rw [Tryz.results56]
  repeat' first
    | (refine And.intro ?_ ?_)
    | (intro h; simp only [reduceCtorEq] at h; done)
    | (intro h; rw [h])
    | (intro h)
  all_goals first
    | (show lowEdges _ = true; kernel_rfl) | (show logOk _ _ = true; kernel_rfl) | exact True.intro | exact Or.inr rfl | exact Or.inl rfl
    | exact (bb (by with_reducible assumption)).elim
    | exact (ib (by with_reducible assumption)).elim
    | exact absurd (show decide ((0 : Int) < (([] : List (List D)).length : Int)) = true by with_reducible assumption) (by decide)
    | exact ⟨_, _, rfl⟩
    | exact ⟨_, rfl, rfl⟩
    | exact absurd (show (!true) = true by with_reducible assumption) (by decide)
    | (exact absurd (show (!eqNb _ _) = true by with_reducible assumption) (by rw [eqNb_refl]; decide))
    | exact rfl
    | skip
  refine awp_loop (Q := _) [2, 3, 5] [2, 3] (fun n st => st = ([.ptr 2 1 0, .ptr 3 1 0, iA 0], [(1, [.val false [.sl false 72 []], .val false [.i .i64 0], .val false [.i .i64 0], .val false [.sl false 118 []], .val false [.sl false 121 []], .val false [.sl false 105 []], .val false [.i .i64 0], .val false [.i .i64 0], .val false [.i .i64 0]]), (1, [.val false [.sl false 72 []], .val false [.i .i64 0], .val false [.i .i64 0], .val false [.sl false 118 []], .val false [.sl false 121 []], .val false [.sl false 105 []], .val false [.i .i64 0], .val false [.i .i64 0], .val false [.i .i64 0]])]) ∧ n = 0) ?_ ?_
  · exact ⟨rfl, 0, rfl, rfl⟩
  rintro n st ⟨rfl, rfl⟩
  repeat' first
    | (refine And.intro ?_ ?_)
    | (intro h; simp only [reduceCtorEq] at h; done)
    | (intro h; rw [h])
    | (intro h)
  all_goals first
    | (show lowEdges _ = true; kernel_rfl) | (show logOk _ _ = true; kernel_rfl) | exact True.intro | exact Or.inr rfl | exact Or.inl rfl
    | exact absurd (show decide ((0 : Int) < (([] : List (List D)).length : Int)) = true by with_reducible assumption) (by decide)
    | exact absurd (show ((0 : Int) == 0) = false by with_reducible assumption) (by decide)
    | exact rfl
    | (show Alive _ _; exact rfl)
    | skip
theorem xk57 : FOk Tryz.prog T 57 (spSame fun v => ∃ (l ns : List (List D)) (a : Int), v = hA 72 55 l ns a) := by
  refine fok (env := envL [(35, (spEqN 72)), (74, (spSame fun v => ∃ es : List (List D), v = argS 82 es))]) (N := 68) tabT (envL_cons xk35 (envL_cons xk74 envL_nil)) mixed Tryz.func57 rfl Tryz.call57 Tryz.ntmps57 ?_
  rintro args ⟨v, ⟨l, ns, a, rfl⟩, rfl⟩ hwf
  have wn : WfD T (.l 55) (.l ns) := arg0 hwf (List.mem_cons_of_mem _ (List.mem_cons_self ..))
  have hns : ns.length ≤ maxLen := wn.len
  refine ⟨by simp, ?_⟩
  clear hwf
  rw [Tryz.results57]
  repeat' first
    | (refine And.intro ?_ ?_)
    | (intro h; simp only [reduceCtorEq] at h; done)
    | (intro h; rw [h])
    | (intro h)
  all_goals first
    | (show lowEdges _ = true; kernel_rfl) | (show logOk _ _ = true; kernel_rfl) | exact True.intro | exact Or.inr rfl | exact Or.inl rfl
    | exact (bb (by with_reducible assumption)).elim
    | exact (ib (by with_reducible assumption)).elim
    | exact absurd (show decide ((0 : Int) < (([] : List (List D)).length : Int)) = true by with_reducible assumption) (by decide)
    | exact ⟨_, _, rfl⟩
    | exact absurd (show (!true) = true by with_reducible assumption) (by decide)
    | (exact absurd (show (!eqNb _ _) = true by with_reducible assumption) (by rw [eqNb_refl]; decide))
    | skip
  refine awp_loop (Q := _) [2, 3, 5] [2, 3] (fun n st => ∃ i : Nat, st = ([.ptr 2 1 0, .ptr 3 1 0, iA (i : Int)], [(1, [.val false [.sl false 72 l], .val false [.sl false 55 ns], .val false [.i .i64 a]]), (1, [.val false [.sl false 72 l], .val false [.sl false 55 ns], .val false [.i .i64 a]])]) ∧ (∀ j, j < i → true = true) ∧ i ≤ ns.length ∧ n = ns.length - i) ?_ ?_
  · exact ⟨rfl, ns.length, 0, rfl, nolt _, Nat.zero_le _, rfl⟩
  rintro n st ⟨i, rfl, hI, hle, rfl⟩
  repeat' first
    | (refine And.intro ?_ ?_)
    | (intro h; simp only [reduceCtorEq] at h; done)
    | (intro h; rw [h])
    | (intro h)
  all_goals first
    | (show lowEdges _ = true; kernel_rfl) | (show logOk _ _ = true; kernel_rfl) | exact True.intro | exact Or.inr rfl | exact Or.inl rfl
    | with_reducible exact Int.natCast_nonneg _
    | (have hi : i < ns.length := ltN (by with_reducible assumption)
       first
         | with_reducible exact of_decide_eq_true (by with_reducible assumption)
         | (show (Int.toNat (i : Int)) < _; rw [Int.toNat_natCast]; exact hi)
         | (show (i : Int) < _; omega)
           | exact (bb (by with_reducible assumption)).elim
           | exact (ib (by with_reducible assumption)).elim
           | exact absurd (show decide ((0 : Int) < (([] : List (List D)).length : Int)) = true by with_reducible assumption) (by decide)
           | exact absurd (show (!true) = true by with_reducible assumption) (by decide)
           | exact ⟨_, ⟨_, rfl⟩, rfl⟩
           | exact rfl
           | (refine ⟨ns.length - (i + 1), by omega, i + 1, ?_, all_succ hI (P := fun j => true) ?_, by omega, rfl⟩
              · exact congrArg (fun z : Int => (([.ptr 2 1 0, .ptr 3 1 0, iA z], [(1, [.val false [.sl false 72 l], .val false [.sl false 55 ns], .val false [.i .i64 a]]), (1, [.val false [.sl false 72 l], .val false [.sl false 55 ns], .val false [.i .i64 a]])]) : Snap)) (wrapN hi hns)
              · exact rfl))
    | (have hi : ¬ i < ns.length := nltN (by with_reducible assumption)
       first
           | exact (bb (by with_reducible assumption)).elim
           | exact (ib (by with_reducible assumption)).elim
           | exact absurd (show decide ((0 : Int) < (([] : List (List D)).length : Int)) = true by with_reducible assumption) (by decide)
           | exact absurd (show (!true) = true by with_reducible assumption) (by decide)
           | exact ⟨_, ⟨_, rfl⟩, rfl⟩
           | exact rfl
           | (refine ⟨ns.length - (i + 1), by omega, i + 1, ?_, all_succ hI (P := fun j => true) ?_, by omega, rfl⟩
              · exact congrArg (fun z : Int => (([.ptr 2 1 0, .ptr 3 1 0, iA z], [(1, [.val false [.sl false 72 l], .val false [.sl false 55 ns], .val false [.i .i64 a]]), (1, [.val false [.sl false 72 l], .val false [.sl false 55 ns], .val false [.i .i64 a]])]) : Snap)) (wrapN hi hns)
              · exact rfl))
    | (show Alive _ _; exact rfl)
    | exact absurd (show (!false) = false by with_reducible assumption) (by decide)
    | exact absurd (show (!true) = true by with_reducible assumption) (by decide)
    | skip
theorem xk31 : FOk Tryz.prog T 31 (spSame fun v => ∃ (l ns : List (List D)) (a : Int), v = .val true [.sl false 72 [], .i .i64 0, .i .i64 0, .sl false 118 [], .sl false 121 [], .sl false 105 [], .i .i64 0, .i .i64 0, .i .i64 0, .sl false 72 l, .sl false 55 ns, .i .i64 a]) := by
  refine fok (env := envL [(56, (spSame fun v => v = .val true [.sl false 72 [], .i .i64 0, .i .i64 0, .sl false 118 [], .sl false 121 [], .sl false 105 [], .i .i64 0, .i .i64 0, .i .i64 0])), (57, (spSame fun v => ∃ (l ns : List (List D)) (a : Int), v = hA 72 55 l ns a))]) (N := 17) tabT (envL_cons xk56 (envL_cons xk57 envL_nil)) mixed Tryz.func31 rfl Tryz.call31 Tryz.ntmps31 ?_
  rintro args ⟨v, ⟨l, ns, a, rfl⟩, rfl⟩ hwf
  refine ⟨by simp, ?_⟩
  clear hwf
  rw [Tryz.results31]
  repeat' first
    | (refine And.intro ?_ ?_)
    | (intro h; simp only [reduceCtorEq] at h; done)
    | (intro h; rw [h])
    | (intro h)
  all_goals first
    | (show lowEdges _ = true; kernel_rfl) | (show logOk _ _ = true; kernel_rfl) | exact True.intro | exact Or.inr rfl | exact Or.inl rfl
    | exact (bb (by with_reducible assumption)).elim
    | exact (ib (by with_reducible assumption)).elim
    | exact absurd (show decide ((0 : Int) < (([] : List (List D)).length : Int)) = true by with_reducible assumption) (by decide)
    | exact ⟨_, rfl, rfl⟩
    | exact ⟨_, ⟨_, _, _, rfl⟩, rfl⟩
    | exact rfl
    | skip
theorem xk9 : FOk Tryz.prog T 9 (spSame fun v => ∃ (l ns : List (List D)) (a : Int), v = hA 72 55 l ns a) := by
  refine fok (env := envL [(31, (spSame fun v => ∃ (l ns : List (List D)) (a : Int), v = .val true [.sl false 72 [], .i .i64 0, .i .i64 0, .sl false 118 [], .sl false 121 [], .sl false 105 [], .i .i64 0, .i .i64 0, .i .i64 0, .sl false 72 l, .sl false 55 ns, .i .i64 a]))]) (N := 10) tabT (envL_cons xk31 envL_nil) mixed Tryz.func9 rfl Tryz.call9 Tryz.ntmps9 ?_
  rintro args ⟨v, ⟨l, ns, a, rfl⟩, rfl⟩ hwf
  refine ⟨by simp, ?_⟩
  clear hwf
  rw [Tryz.results9]
  repeat' first
    | (refine And.intro ?_ ?_)
    | (intro h; simp only [reduceCtorEq] at h; done)
    | (intro h; rw [h])
    | (intro h)
  all_goals first
    | (show lowEdges _ = true; kernel_rfl) | (show logOk _ _ = true; kernel_rfl) | exact True.intro | exact Or.inr rfl | exact Or.inl rfl
    | exact (bb (by with_reducible assumption)).elim
    | exact (ib (by with_reducible assumption)).elim
    | exact absurd (show decide ((0 : Int) < (([] : List (List D)).length : Int)) = true by with_reducible assumption) (by decide)
    | exact ⟨_, ⟨_, _, _, rfl⟩, rfl⟩
    | exact rfl
    | skip
def spRise (i : TypeId) : FSpec where
  pre args := ∃ q : List Int, q.Pairwise (· < ·) ∧ q.length ≤ 1000 ∧ args = [argS i (intR q)]
  res _ := .val false [.b true]
theorem xk18 : FOk Tryz.prog T 18 (spRise 3) := by
  refine fok (env := envL []) (N := 20) tabT envL_nil mixed Tryz.func18 rfl Tryz.call18 Tryz.ntmps18 ?_
  rintro args ⟨q, hp, hq, rfl⟩ hwf
  have hl := intR_len q
  have hlm : (intR q).length ≤ maxLen := by rw [hl]; simp only [maxLen]; omega
  refine ⟨by simp, ?_⟩
  clear hwf
  rw [Tryz.results18]
  repeat' first
    | (refine And.intro ?_ ?_)
    | (intro h; simp only [reduceCtorEq] at h; done)
    | (intro h; rw [h])
    | (intro h)
  all_goals first
    | (show lowEdges _ = true; kernel_rfl) | (show logOk _ _ = true; kernel_rfl) | exact True.intro | exact Or.inr rfl | exact Or.inl rfl
    | skip
  refine awp_loop (Q := _) [0, 3] [] (fun n st => ∃ i : Nat, st = ([argS 3 (intR q), iA (i : Int)], []) ∧ 1 ≤ i ∧ n = (intR q).length - i) ?_ ?_
  · exact ⟨rfl, (intR q).length - 1, 1, rfl, Nat.le_refl 1, rfl⟩
  rintro n st ⟨i, rfl, h1, rfl⟩
  repeat' first
    | (refine And.intro ?_ ?_)
    | (intro h; simp only [reduceCtorEq] at h; done)
    | (intro h; rw [h])
    | (intro h)
  all_goals first
    | (show lowEdges _ = true; kernel_rfl) | (show logOk _ _ = true; kernel_rfl) | exact True.intro | exact Or.inr rfl | exact Or.inl rfl
    | with_reducible exact Int.natCast_nonneg _
    | (have hi : i < (intR q).length := ltN (by with_reducible assumption)
       have hj : IntKind.i64.wrap ((i : Int) - 1) = ((i - 1 : Nat) : Int) := wrapP (by omega) hi hlm
       first
         | with_reducible exact of_decide_eq_true (by with_reducible assumption)
         | (rw [hj]; exact Int.natCast_nonneg _)
         | (rw [hj]; omega)
         | (have h2 : decide (iAt ((intR q).getD (IntKind.i64.wrap ((i : Int) - 1)).toNat []) 0 ≥ iAt (rAt (intR q) i) 0) = true := h
            rw [hj] at h2
            have e1 : iAt (rAt (intR q) (i - 1)) 0 = gI q (i - 1) := rAt_int (by omega)
            have e2 : iAt (rAt (intR q) i) 0 = gI q i := rAt_int (by omega)
            have h3 : gI q (i - 1) ≥ gI q i := by rw [← e1, ← e2]; exact of_decide_eq_true h2
            have h4 := pw_lt hp (show i - 1 < i by omega) (show i < q.length by omega)
            omega)
         | (refine ⟨(intR q).length - (i + 1), by omega, i + 1, ?_, by omega, rfl⟩
            exact congrArg (fun z : Int => (([argS 3 (intR q), iA z], []) : Snap)) (wrapN hi hlm)))
    | exact rfl
    | (show Alive _ _; exact rfl)
    | skip
end Go.Proofs.YtodddilaniojgaaGreat.Ab
