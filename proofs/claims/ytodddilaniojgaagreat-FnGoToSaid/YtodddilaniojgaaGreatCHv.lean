/- Histories: copies and validity, exactly: printed by a program of this claim. -/
import Derived.Test.YtodddilaniojgaaGreatCHj
import Derived.Test.YtodddilaniojgaaGreatCHu
namespace Go.Proofs.YtodddilaniojgaaGreat.Ab
open Go.RowKit
set_option linter.unusedVariables false
set_option linter.unusedSimpArgs false
set_option maxRecDepth 100000
set_option maxHeartbeats 2000000
theorem xk26 : FOk Tryz.prog T 26 (spCpH 72 55) := by
  refine fok (env := envL [(34, (spCpN 72)), (30, (spCpE 82))]) (N := 39) tabT (envL_cons xk34 (envL_cons xk30 envL_nil)) mixed Tryz.func26 rfl Tryz.call26 Tryz.ntmps26 ?_
  rintro args ⟨l, ns, at_, hs, rfl⟩ hwf
  have wn : WfD T (.l 55) (.l ns) := arg0 hwf (List.mem_cons_of_mem _ (List.mem_cons_self ..))
  have hns : ns.length ≤ maxLen := wn.len
  have hl : l.length ≤ 1048576 := hs.1
  have hn : ns.length ≤ 1000 := hs.2.1
  refine ⟨by simp, ?_⟩
  clear hwf
  rw [Tryz.results26]
  repeat' first
    | (refine And.intro ?_ ?_)
    | (intro h; simp only [reduceCtorEq] at h; done)
    | (intro h; rw [h])
    | (intro h)
  all_goals first
    | (show lowEdges _ = true; kernel_rfl) | (show logOk _ _ = true; kernel_rfl) | exact True.intro | exact Or.inr rfl | exact Or.inl rfl
    | exact ⟨_, hl, rfl⟩
    | skip
  refine awp_loop (Q := _) [1, 2, 3, 4] [1, 2, 3] (fun n st => ∃ i : Nat, st = ([.ptr 1 1 0, .ptr 2 1 0, .ptr 3 1 0, .val false [.i .i64 (i : Int)]], [(1, [.val false [.sl false 72 l], .val false [.sl false 55 ns], .val false [.i .i64 at_]]), (1, [.val false [.sl true 72 []], .val false [.sl true 55 []], .val false [.i .i64 0]]), (1, [.val false [.sl true 72 l], .val false [.sl true 55 (ns.take i)], .val false [.i .i64 at_]])]) ∧ i ≤ ns.length ∧ n = ns.length - i) ?_ ?_
  · exact ⟨rfl, ns.length, 0, rfl, Nat.zero_le _, rfl⟩
  rintro n st ⟨i, rfl, hle, rfl⟩
  repeat' first
    | (refine And.intro ?_ ?_)
    | (intro h; simp only [reduceCtorEq] at h; done)
    | (intro h; rw [h])
    | (intro h)
  all_goals first
    | (show lowEdges _ = true; kernel_rfl) | (show logOk _ _ = true; kernel_rfl) | exact True.intro | exact Or.inr rfl | exact Or.inl rfl
    | with_reducible exact Int.natCast_nonneg _
    | (have hi : i < ns.length := ltN (by with_reducible assumption)
       have hm := hs.2.2 _ (rAt_mem hi)
       first
         | with_reducible exact of_decide_eq_true (by with_reducible assumption)
         | (show (i : Int) < _; omega)
         | exact ⟨_, Nat.le_trans hm.1 (by decide), rfl⟩
         | exact ⟨_, Nat.le_trans hm.2 (by decide), rfl⟩
         | (simp only [List.length_append, List.length_take, List.length_cons, List.length_nil, maxLen]; omega)
         | (simp only [List.length_append, List.length_take, List.length_cons, List.length_nil]; omega)
         | (have he : csD (rowC CN3 (rAt ns i)) = rAt ns i := csD_rowC (wn.row rfl (by rw [Int.toNat_natCast]; exact hi))
            refine ⟨ns.length - (i + 1), by omega, i + 1, ?_, by omega, rfl⟩
            refine (congrArg (fun z : Int => (([.ptr 1 1 0, .ptr 2 1 0, .ptr 3 1 0, .val false [.i .i64 z]], [(1, [.val false [.sl false 72 l], .val false [.sl false 55 ns], .val false [.i .i64 at_]]), (1, [.val false [.sl true 72 []], .val false [.sl true 55 []], .val false [.i .i64 0]]), (1, [.val false [.sl true 72 l], .val false [.sl true 55 (ns.take i ++ ([] ++ [csD (rowC CN3 (rAt ns i))]))], .val false [.i .i64 at_]])]) : Snap)) (wrapN hi hns)).trans ?_
            exact congrArg (fun z : List (List D) => (([.ptr 1 1 0, .ptr 2 1 0, .ptr 3 1 0, .val false [.i .i64 ((i + 1 : Nat) : Int)]], [(1, [.val false [.sl false 72 l], .val false [.sl false 55 ns], .val false [.i .i64 at_]]), (1, [.val false [.sl true 72 []], .val false [.sl true 55 []], .val false [.i .i64 0]]), (1, [.val false [.sl true 72 l], .val false [.sl true 55 (z)], .val false [.i .i64 at_]])]) : Snap)) (take_next hi he)))
    | (have hi : ¬ i < ns.length := nltN (by with_reducible assumption)
       have e : ns.take i = ns := List.take_of_length_le (Nat.le_of_not_lt hi)
       rw [e])
    | (show Alive _ _; exact rfl)
    | skip
theorem xk22 : FOk Tryz.prog T 22 (spCpH 72 55) := by
  refine fok (env := envL [(49, (spCpN 72)), (25, (spCpE 82))]) (N := 35) tabT (envL_cons xk49 (envL_cons xk25 envL_nil)) mixed Tryz.func22 rfl Tryz.call22 Tryz.ntmps22 ?_
  rintro args ⟨l, ns, at_, hs, rfl⟩ hwf
  have wn : WfD T (.l 55) (.l ns) := arg0 hwf (List.mem_cons_of_mem _ (List.mem_cons_self ..))
  have hns : ns.length ≤ maxLen := wn.len
  have hl : l.length ≤ 1048576 := hs.1
  have hn : ns.length ≤ 1000 := hs.2.1
  refine ⟨by simp, ?_⟩
  clear hwf
  rw [Tryz.results22]
  repeat' first
    | (refine And.intro ?_ ?_)
    | (intro h; simp only [reduceCtorEq] at h; done)
    | (intro h; rw [h])
    | (intro h)
  all_goals first
    | (show lowEdges _ = true; kernel_rfl) | (show logOk _ _ = true; kernel_rfl) | exact True.intro | exact Or.inr rfl | exact Or.inl rfl
    | exact ⟨_, hl, rfl⟩
    | skip
  refine awp_loop (Q := _) [1, 2, 3, 13, 14, 15] [1, 2, 3] (fun n st => ∃ i : Nat, st = ([.ptr 1 1 0, .ptr 2 1 0, .ptr 3 1 0, argS 55 ns, .val false [.i .i64 ns.length], .val false [.i .i64 (i : Int)]], [(1, [.val false [.sl false 72 l], .val false [.sl false 55 ns], .val false [.i .i64 at_]]), (1, [.val false [.sl true 72 []], .val false [.sl true 55 []], .val false [.i .i64 0]]), (1, [.val false [.sl true 72 l], .val false [.sl true 55 (ns.take i)], .val false [.i .i64 at_]])]) ∧ i ≤ ns.length ∧ n = ns.length - i) ?_ ?_
  · exact ⟨rfl, ns.length, 0, rfl, Nat.zero_le _, rfl⟩
  rintro n st ⟨i, rfl, hle, rfl⟩
  repeat' first
    | (refine And.intro ?_ ?_)
    | (intro h; simp only [reduceCtorEq] at h; done)
    | (intro h; rw [h])
    | (intro h)
  all_goals first
    | (show lowEdges _ = true; kernel_rfl) | (show logOk _ _ = true; kernel_rfl) | exact True.intro | exact Or.inr rfl | exact Or.inl rfl
    | with_reducible exact Int.natCast_nonneg _
    | (have hi : i < ns.length := ltN (by with_reducible assumption)
       have hm := hs.2.2 _ (rAt_mem hi)
       first
         | with_reducible exact of_decide_eq_true (by with_reducible assumption)
         | (show (i : Int) < _; omega)
         | exact ⟨_, Nat.le_trans hm.1 (by decide), rfl⟩
         | exact ⟨_, Nat.le_trans hm.2 (by decide), rfl⟩
         | (simp only [List.length_append, List.length_take, List.length_cons, List.length_nil, maxLen]; omega)
         | (simp only [List.length_append, List.length_take, List.length_cons, List.length_nil]; omega)
         | (have he : csD (rowC CN3 (rAt ns i)) = rAt ns i := csD_rowC (wn.row rfl (by rw [Int.toNat_natCast]; exact hi))
            refine ⟨ns.length - (i + 1), by omega, i + 1, ?_, by omega, rfl⟩
            refine (congrArg (fun z : Int => (([.ptr 1 1 0, .ptr 2 1 0, .ptr 3 1 0, argS 55 ns, .val false [.i .i64 ns.length], .val false [.i .i64 z]], [(1, [.val false [.sl false 72 l], .val false [.sl false 55 ns], .val false [.i .i64 at_]]), (1, [.val false [.sl true 72 []], .val false [.sl true 55 []], .val false [.i .i64 0]]), (1, [.val false [.sl true 72 l], .val false [.sl true 55 (ns.take i ++ ([] ++ [csD (rowC CN3 (rAt ns i))]))], .val false [.i .i64 at_]])]) : Snap)) (wrapN hi hns)).trans ?_
            exact congrArg (fun z : List (List D) => (([.ptr 1 1 0, .ptr 2 1 0, .ptr 3 1 0, argS 55 ns, .val false [.i .i64 ns.length], .val false [.i .i64 ((i + 1 : Nat) : Int)]], [(1, [.val false [.sl false 72 l], .val false [.sl false 55 ns], .val false [.i .i64 at_]]), (1, [.val false [.sl true 72 []], .val false [.sl true 55 []], .val false [.i .i64 0]]), (1, [.val false [.sl true 72 l], .val false [.sl true 55 (z)], .val false [.i .i64 at_]])]) : Snap)) (take_next hi he)))
    | (have hi : ¬ i < ns.length := nltN (by with_reducible assumption)
       have e : ns.take i = ns := List.take_of_length_le (Nat.le_of_not_lt hi)
       rw [e])
    | (show Alive _ _; exact rfl)
    | skip
theorem xk42 : FOk Tryz.prog T 42 (spNewH 72 55) := by
  refine fok (env := envL [(55, (spOkN 72)), (34, (spCpN 72))]) (N := 13) tabT (envL_cons xk55 (envL_cons xk34 envL_nil)) mixed Tryz.func42 rfl Tryz.call42 Tryz.ntmps42 ?_
  rintro args ⟨l, hl, rfl⟩ hwf
  refine ⟨by simp, ?_⟩
  clear hwf
  rw [Tryz.results42]
  repeat' first
    | (refine And.intro ?_ ?_)
    | (intro h; simp only [reduceCtorEq] at h; done)
    | (intro h; rw [h])
    | (intro h)
  all_goals first
    | (show lowEdges _ = true; kernel_rfl) | (show logOk _ _ = true; kernel_rfl) | exact True.intro | exact Or.inr rfl | exact Or.inl rfl
    | exact ⟨_, rfl⟩
    | exact ⟨_, hl, rfl⟩
    | (show _ = tupH 72 55 (newE l); rw [newE_no h]; first | done | rfl)
    | (show _ = tupH 72 55 (newE l); rw [newE_yes (by with_reducible assumption)]; first | done | rfl)
    | skip
theorem xk29 : FOk Tryz.prog T 29 (spOkH 72 55) := by
  refine fok (env := envL [(54, spIn), (55, (spOkN 72))]) (N := 53) tabT (envL_cons xk54 (envL_cons xk55 envL_nil)) mixed Tryz.func29 rfl Tryz.call29 Tryz.ntmps29 ?_
  rintro args ⟨l, ns, at_, rfl⟩ hwf
  have wn : WfD T (.l 55) (.l ns) := arg0 hwf (List.mem_cons_of_mem _ (List.mem_cons_self ..))
  have hns : ns.length ≤ maxLen := wn.len
  have hw1 : IntKind.i64.wrap ((ns.length : Int) - 1) = (ns.length : Int) - 1 := IntWalk.i64_in _ (by have := hns; simp only [maxLen] at this; omega)
  refine ⟨by simp, ?_⟩
  clear hwf
  rw [Tryz.results29]
  repeat' first
    | (refine And.intro ?_ ?_)
    | (intro h; simp only [reduceCtorEq] at h; done)
    | (intro h; rw [h])
    | (intro h)
  all_goals first
    | (show lowEdges _ = true; kernel_rfl) | (show logOk _ _ = true; kernel_rfl) | exact True.intro | exact Or.inr rfl | exact Or.inl rfl
    | skip
  refine awp_loop (Q := _) [1, 3, 4] [1] (fun n st => ∃ i : Nat, st = ([.ptr 1 1 0, .val false [.i .i64 ns.length], .val false [.i .i64 (i : Int)]], [(1, [.val false [.sl false 72 l], .val false [.sl false 55 ns], .val false [.i .i64 at_]])]) ∧ (∀ j, j < i → parOk ns j = true) ∧ i ≤ ns.length ∧ n = ns.length - i) ?_ ?_
  · exact ⟨rfl, ns.length, 0, rfl, nolt _, Nat.zero_le _, rfl⟩
  rintro n st ⟨i, rfl, hI, hle, rfl⟩
  repeat' first
    | (refine And.intro ?_ ?_)
    | (intro h; simp only [reduceCtorEq] at h; done)
    | (intro h; rw [h])
    | (intro h)
  all_goals first
    | (show lowEdges _ = true; kernel_rfl) | (show logOk _ _ = true; kernel_rfl) | exact True.intro | exact Or.inr rfl | exact Or.inl rfl
    | with_reducible exact Int.natCast_nonneg _
    | (have hi : i < ns.length := ltN (by with_reducible assumption)
       first
         | with_reducible exact of_decide_eq_true (by with_reducible assumption)
         | (show (Int.toNat (i : Int)) < _; rw [Int.toNat_natCast]; exact hi)
         | (show (i : Int) < _; omega)
           | exact ⟨_, rfl⟩
           | exact ⟨_, _, _, rfl⟩
           | (rw [wrapP (of_decide_eq_true (by with_reducible assumption)) hi hns]; omega)
           | omega
           | (exfalso; exact par_abs (by with_reducible assumption) (by with_reducible assumption))
           | (exfalso; exact par_abs2 (by with_reducible assumption) (by with_reducible assumption))
           | (show [CV.b false] = [CV.b (okH (l, ns, at_))]; exact resBs (P := parOk ns) hi (par_0n (by with_reducible assumption) (by with_reducible assumption)))
           | (show [CV.b false] = [CV.b (okH (l, ns, at_))]; exact resBs (P := parOk ns) hi (par_n hns hi (by with_reducible assumption) (by with_reducible assumption)))
           | (show _ = [CV.b (okH (l, ns, at_))]; unfold okH; refine resBe (P := parOk ns) hI hi ?_; simp only [hw1] at *; simp_all; done)
           | (refine ⟨ns.length - (i + 1), by omega, i + 1, ?_, all_succ hI (P := fun j => parOk ns j) ?_, by omega, rfl⟩
              · exact congrArg (fun z : Int => (([.ptr 1 1 0, .val false [.i .i64 ns.length], .val false [.i .i64 z]], [(1, [.val false [.sl false 72 l], .val false [.sl false 55 ns], .val false [.i .i64 at_]])]) : Snap)) (wrapN hi hns)
              · first | exact par_0y (by with_reducible assumption) (by with_reducible assumption) | exact par_y hns hi (by with_reducible assumption) (by with_reducible assumption)))
    | (have hi : ¬ i < ns.length := nltN (by with_reducible assumption)
       first
           | exact ⟨_, rfl⟩
           | exact ⟨_, _, _, rfl⟩
           | (rw [wrapP (of_decide_eq_true (by with_reducible assumption)) hi hns]; omega)
           | omega
           | (exfalso; exact par_abs (by with_reducible assumption) (by with_reducible assumption))
           | (exfalso; exact par_abs2 (by with_reducible assumption) (by with_reducible assumption))
           | (show [CV.b false] = [CV.b (okH (l, ns, at_))]; exact resBs (P := parOk ns) hi (par_0n (by with_reducible assumption) (by with_reducible assumption)))
           | (show [CV.b false] = [CV.b (okH (l, ns, at_))]; exact resBs (P := parOk ns) hi (par_n hns hi (by with_reducible assumption) (by with_reducible assumption)))
           | (show _ = [CV.b (okH (l, ns, at_))]; unfold okH; refine resBe (P := parOk ns) hI hi ?_; simp only [hw1] at *; simp_all; done)
           | (refine ⟨ns.length - (i + 1), by omega, i + 1, ?_, all_succ hI (P := fun j => parOk ns j) ?_, by omega, rfl⟩
              · exact congrArg (fun z : Int => (([.ptr 1 1 0, .val false [.i .i64 ns.length], .val false [.i .i64 z]], [(1, [.val false [.sl false 72 l], .val false [.sl false 55 ns], .val false [.i .i64 at_]])]) : Snap)) (wrapN hi hns)
              · first | exact par_0y (by with_reducible assumption) (by with_reducible assumption) | exact par_y hns hi (by with_reducible assumption) (by with_reducible assumption)))
    | (show Alive _ _; exact rfl)
    | exact absurd (show (!false) = false by with_reducible assumption) (by decide)
    | exact absurd (show (!true) = true by with_reducible assumption) (by decide)
    | skip
theorem xk12 : FOk Tryz.prog T 12 (spOkH 72 55) := by
  refine fok (env := envL [(33, (spOkN 72)), (32, spIn)]) (N := 49) tabT (envL_cons xk33 (envL_cons xk32 envL_nil)) mixed Tryz.func12 rfl Tryz.call12 Tryz.ntmps12 ?_
  rintro args ⟨l, ns, at_, rfl⟩ hwf
  have wn : WfD T (.l 55) (.l ns) := arg0 hwf (List.mem_cons_of_mem _ (List.mem_cons_self ..))
  have hns : ns.length ≤ maxLen := wn.len
  have hw1 : IntKind.i64.wrap ((ns.length : Int) - 1) = (ns.length : Int) - 1 := IntWalk.i64_in _ (by have := hns; simp only [maxLen] at this; omega)
  have hnt : (tlN ns).length ≤ maxLen := by rw [tlN_len]; omega
  refine ⟨by simp, ?_⟩
  clear hwf
  rw [Tryz.results12]
  repeat' first
    | (refine And.intro ?_ ?_)
    | (intro h; simp only [reduceCtorEq] at h; done)
    | (intro h; rw [h])
    | (intro h)
  all_goals first
    | (show lowEdges _ = true; kernel_rfl) | (show logOk _ _ = true; kernel_rfl) | exact True.intro | exact Or.inr rfl | exact Or.inl rfl
    | exact ⟨_, rfl⟩
    | exact ⟨_, _, _, rfl⟩
    | omega
    | (exact Nat.zero_lt_of_lt (len_in (by with_reducible assumption)))
    | (have := len_in (by with_reducible assumption); omega)
    | (simp only [hw1] at *; exact congrArg (fun z => [CV.b z]) (okH_no1 (h := (l, ns, at_)) (by with_reducible assumption)))
    | (simp only [hw1] at *; exact congrArg (fun z => [CV.b z]) (okH_no2 (h := (l, ns, at_)) (by with_reducible assumption)))
    | (simp only [hw1] at *; exact congrArg (fun z => [CV.b z]) (okH_no3 (h := (l, ns, at_)) (by with_reducible assumption) (by with_reducible assumption)))
    | (simp only [hw1] at *; exact congrArg (fun z => [CV.b z]) (okH_no4 (h := (l, ns, at_)) (by with_reducible assumption)))
    | skip
  refine awp_loop (Q := _) [1, 36, 37, 38] [1] (fun n st => ∃ i : Nat, st = ([.ptr 1 1 0, argS 55 (tlN ns), .val false [.i .i64 (tlN ns).length], .val false [.i .i64 (i : Int)]], [(1, [.val false [.sl false 72 l], .val false [.sl false 55 ns], .val false [.i .i64 at_]])]) ∧ (∀ j, j < i → inT ns j = true) ∧ i ≤ (tlN ns).length ∧ n = (tlN ns).length - i) ?_ ?_
  · exact ⟨rfl, (tlN ns).length, 0, rfl, nolt _, Nat.zero_le _, rfl⟩
  rintro n st ⟨i, rfl, hI, hle, rfl⟩
  repeat' first
    | (refine And.intro ?_ ?_)
    | (intro h; simp only [reduceCtorEq] at h; done)
    | (intro h; rw [h])
    | (intro h)
  all_goals first
    | (show lowEdges _ = true; kernel_rfl) | (show logOk _ _ = true; kernel_rfl) | exact True.intro | exact Or.inr rfl | exact Or.inl rfl
    | with_reducible exact Int.natCast_nonneg _
    | (have hi : i < (tlN ns).length := ltN (by with_reducible assumption)
       first
         | with_reducible exact of_decide_eq_true (by with_reducible assumption)
         | (show (Int.toNat (i : Int)) < _; rw [Int.toNat_natCast]; exact hi)
         | (show (i : Int) < _; omega)
           | exact ⟨_, _, _, rfl⟩
           | exact congrArg (fun z => [CV.b z]) (okH_no5 (h := (l, ns, at_)) hi h)
           | (simp only [hw1] at *; exact congrArg (fun z => [CV.b z]) (okH_yes (h := (l, ns, at_)) (by with_reducible assumption) (by with_reducible assumption) (by with_reducible assumption) (by with_reducible assumption) hI hi))
           | (refine ⟨(tlN ns).length - (i + 1), by omega, i + 1, ?_, all_succ hI (P := fun j => inT ns j) ?_, by omega, rfl⟩
              · exact congrArg (fun z : Int => (([.ptr 1 1 0, argS 55 (tlN ns), .val false [.i .i64 (tlN ns).length], .val false [.i .i64 z]], [(1, [.val false [.sl false 72 l], .val false [.sl false 55 ns], .val false [.i .i64 at_]])]) : Snap)) (wrapN hi hnt)
              · exact of_notF h))
    | (have hi : ¬ i < (tlN ns).length := nltN (by with_reducible assumption)
       first
           | exact ⟨_, _, _, rfl⟩
           | exact congrArg (fun z => [CV.b z]) (okH_no5 (h := (l, ns, at_)) hi h)
           | (simp only [hw1] at *; exact congrArg (fun z => [CV.b z]) (okH_yes (h := (l, ns, at_)) (by with_reducible assumption) (by with_reducible assumption) (by with_reducible assumption) (by with_reducible assumption) hI hi))
           | (refine ⟨(tlN ns).length - (i + 1), by omega, i + 1, ?_, all_succ hI (P := fun j => inT ns j) ?_, by omega, rfl⟩
              · exact congrArg (fun z : Int => (([.ptr 1 1 0, argS 55 (tlN ns), .val false [.i .i64 (tlN ns).length], .val false [.i .i64 z]], [(1, [.val false [.sl false 72 l], .val false [.sl false 55 ns], .val false [.i .i64 at_]])]) : Snap)) (wrapN hi hnt)
              · exact of_notF h))
    | (show Alive _ _; exact rfl)
    | exact absurd (show (!false) = false by with_reducible assumption) (by decide)
    | exact absurd (show (!true) = true by with_reducible assumption) (by decide)
    | skip
end Go.Proofs.YtodddilaniojgaaGreat.Ab
