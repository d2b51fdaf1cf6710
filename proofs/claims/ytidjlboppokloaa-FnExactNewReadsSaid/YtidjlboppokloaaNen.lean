/- New reads: printed by a program of this claim. -/
import Derived.Test.YtidjlboppokloaaNg
import Derived.Test.YtidjlboppokloaaNrn
namespace Go.Proofs.Ytidjlboppokloaa.Ab
open Go.RowKit
set_option linter.unusedVariables false
set_option linter.unusedSimpArgs false
set_option maxRecDepth 100000
set_option maxHeartbeats 1000000
/-- spec.NewReads -/
theorem ok6 : FOk Try.prog T 6 (spNewG 54) := by
  refine fok (env := envL [(18, (spTape 54 64)), (19, (spFind T 64 [.i .i64, .i .i64, .i .i64, .s, .i .i64, .i .i64, .i .i64, .s, .l 60, .l 9, .l 114] [.i .i64, .i .i64, .i .i64, .s, .l 60, .l 9, .l 114])), (20, (cpG T [.i .i64, .i .i64, .i .i64, .s, .i .i64, .i .i64, .i .i64, .s, .l 60, .l 9, .l 114]))]) (N := 84) tabT (envL_cons ok18 (envL_cons ok19 (envL_cons ok20 envL_nil))) mixed Try.func6 rfl Try.call6 Try.ntmps6 ?_
  rintro args ⟨a, b, ha, hb, rfl⟩ hwf
  have wb : WfD T (.l 54) (.l b) := arg1 hwf (List.mem_singleton_self _)
  clear hwf
  have lb : b.length ≤ maxLen := wb.len
  refine ⟨by simp, ?_⟩
  rw [Try.results6]
  repeat' first
    | (refine And.intro ?_ ?_)
    | (intro h; simp only [reduceCtorEq] at h; done)
    | (intro h; rw [h])
    | (intro h)
  all_goals first
    | (show lowEdges _ = true; kernel_rfl) | (show logOk _ _ = true; kernel_rfl) | exact True.intro | exact Or.inr rfl | exact Or.inl rfl
    | skip
  refine awp_loop (Q := _) [0, 1, 5, 6] [] (fun n s => ∃ i : Int, s = ([argS 54 a, argS 54 b, .val false [.sl true 54 (newTo a b i.toNat)], .val false [.i .i64 i]], []) ∧ 0 ≤ i ∧ i ≤ b.length ∧ n = b.length - i.toNat) ?_ ?_
  · exact ⟨rfl, b.length - 0, 0, rfl, by omega, by omega, rfl⟩
  rintro n s ⟨i, rfl, h1, h2, h3⟩
  have hlen := newTo_len a b i.toNat (by omega)
  repeat' first
    | (refine And.intro ?_ ?_)
    | (intro h; simp only [reduceCtorEq] at h; done)
    | (intro h; rw [h])
    | (intro h)
  all_goals first
    | (show lowEdges _ = true; kernel_rfl) | (show logOk _ _ = true; kernel_rfl) | exact True.intro | exact Or.inr rfl | exact Or.inl rfl
    | exact of_decide_eq_true ‹_›
    | exact newTo_all' h1 h2 ‹decide (i < (b.length : Int)) = false›
    | omega
    | (have hi : i < (b.length : Int) := of_decide_eq_true ‹decide (i < (b.length : Int)) = true›; omega)
    | exact ⟨_, _, _, ha, rfl⟩
    | exact rfl
    | skip
  have hi : i < (b.length : Int) := of_decide_eq_true ‹decide (i < (b.length : Int)) = true›
  have wt : WfRow T [.i .i64, .i .i64, .l 64] (b.getD i.toNat []) := wb.row rfl (by omega)
  have wR : WfD T (.l 64) (.l ((b.getD i.toNat []).getD 2 default).rows) := wt.rows (j := 2) rfl
  have lR : ((b.getD i.toNat []).getD 2 default).rows.length ≤ maxLen := wR.len
  have hrow := wRow_le (a := b) (k := i.toNat) (by omega)
  have hcell := wRows_cell (b.getD i.toNat []) 2
  have hT := tapeOf_size (c := ((b.getD i.toNat []).getD 0 default).int) (v := ((b.getD i.toNat []).getD 1 default).int) ha
  refine awp_loop (Q := _) [0, 1, 5, 6, 7, 8, 9] [7] (fun n s => ∃ (o : Bool) (j : Int), s = ([argS 54 a, argS 54 b, .val false [.sl true 54 (newTo a b i.toNat)], .val false [.i .i64 i], .ptr 7 1 0, .val false [.sl o 64 (tapeOf a ((b.getD i.toNat []).getD 0 default).int ((b.getD i.toNat []).getD 1 default).int)], .val false [.i .i64 j]], [(1, [.val false [.i .i64 ((b.getD i.toNat []).getD 0 default).int], .val false [.i .i64 ((b.getD i.toNat []).getD 1 default).int], .val false [.sl true 64 (newT a (b.getD i.toNat []) j.toNat)]])]) ∧ 0 ≤ j ∧ j ≤ ((b.getD i.toNat []).getD 2 default).rows.length ∧ n = ((b.getD i.toNat []).getD 2 default).rows.length - j.toNat) ?_ ?_
  · exact ⟨rfl, ((b.getD i.toNat []).getD 2 default).rows.length - 0, true, 0, rfl, by omega, by omega, rfl⟩
  rintro n2 s ⟨o, j, rfl, g1, g2, g3⟩
  have hlj := newT_len a (b.getD i.toNat []) j.toNat
  rcases o with _ | _
  · repeat' first
      | (refine And.intro ?_ ?_)
      | (intro h; simp only [reduceCtorEq] at h; done)
      | (intro h; rw [h])
      | (intro h)
    all_goals first
      | (show lowEdges _ = true; kernel_rfl) | (show logOk _ _ = true; kernel_rfl) | exact True.intro | exact Or.inr rfl | exact Or.inl rfl
      | exact of_decide_eq_true ‹_›
      | omega
      | exact (show (7 : Nat) ≤ 1024 by decide)
      | (have hj : j < (((b.getD i.toNat []).getD 2 default).rows.length : Int) := of_decide_eq_true ‹decide (j < (((b.getD i.toNat []).getD 2 default).rows.length : Int)) = true›
         have wr : WfRow T [.i .i64, .i .i64, .i .i64, .s, .i .i64, .i .i64, .i .i64, .s, .l 60, .l 9, .l 114] (((b.getD i.toNat []).getD 2 default).rows.getD j.toNat []) := wR.row rfl (by omega)
         have hwr := wRow_le (a := ((b.getD i.toNat []).getD 2 default).rows) (k := j.toNat) (by omega)
         have er : csD (rowC [.i .i64, .i .i64, .i .i64, .s, .i .i64, .i .i64, .i .i64, .s, .l 60, .l 9, .l 114] (((b.getD i.toNat []).getD 2 default).rows.getD j.toNat [])) = ((b.getD i.toNat []).getD 2 default).rows.getD j.toNat [] := csD_rowC wr
         have ew : wRows [csD (rowC [.i .i64, .i .i64, .i .i64, .s, .i .i64, .i .i64, .i .i64, .s, .l 60, .l 9, .l 114] (((b.getD i.toNat []).getD 2 default).rows.getD j.toNat []))] = wRow (((b.getD i.toNat []).getD 2 default).rows.getD j.toNat []) := by rw [er, wRows_one]
         first
           | omega
           | exact ⟨_, _, hT, wr, rfl⟩
           | exact ⟨_, _, _, ha, rfl⟩
           | exact ⟨_, wr, by omega, rfl⟩
           | exact ⟨[csD (rowC [.i .i64, .i .i64, .i .i64, .s, .i .i64, .i .i64, .i .i64, .s, .l 60, .l 9, .l 114] (((b.getD i.toNat []).getD 2 default).rows.getD j.toNat []))], by rw [ew]; show 1 + _ ≤ _; omega, rfl⟩
           | (show (newT a (b.getD i.toNat []) j.toNat).length + 1 ≤ maxLen; simp only [maxLen]; omega)
           | (show ((newT a (b.getD i.toNat []) j.toNat).length + 1) * 152 ≤ 140737488355328; omega)
           | (refine ⟨((b.getD i.toNat []).getD 2 default).rows.length - (j + 1).toNat, by omega, false, j + 1, ?_, by omega, by omega, rfl⟩
              first
                | exact snapT (fun r z => (([argS 54 a, argS 54 b, .val false [.sl true 54 (newTo a b i.toNat)], .val false [.i .i64 i], .ptr 7 1 0, .val false [.sl false 64 (tapeOf a ((b.getD i.toNat []).getD 0 default).int ((b.getD i.toNat []).getD 1 default).int)], .val false [.i .i64 z]], [(1, [.val false [.i .i64 ((b.getD i.toNat []).getD 0 default).int], .val false [.i .i64 ((b.getD i.toNat []).getD 1 default).int], .val false [.sl true 64 r]])]) : Snap)) (newT_yes g1 hj er er h) (wrap_next g1 hj lR)
                | exact snapT (fun r z => (([argS 54 a, argS 54 b, .val false [.sl true 54 (newTo a b i.toNat)], .val false [.i .i64 i], .ptr 7 1 0, .val false [.sl false 64 (tapeOf a ((b.getD i.toNat []).getD 0 default).int ((b.getD i.toNat []).getD 1 default).int)], .val false [.i .i64 z]], [(1, [.val false [.i .i64 ((b.getD i.toNat []).getD 0 default).int], .val false [.i .i64 ((b.getD i.toNat []).getD 1 default).int], .val false [.sl true 64 r]])]) : Snap)) (newT_no g1 hj er h) (wrap_next g1 hj lR)))
      | (have hj : ¬ j < (((b.getD i.toNat []).getD 2 default).rows.length : Int) := of_decide_eq_false ‹decide (j < (((b.getD i.toNat []).getD 2 default).rows.length : Int)) = false›
         first
           | (show (newTo a b i.toNat).length + 1 ≤ maxLen; simp only [maxLen]; omega)
           | (show ((newTo a b i.toNat).length + 1) * 40 ≤ 140737488355328; omega)
           | (refine ⟨b.length - (i + 1).toNat, by omega, i + 1, ?_, by omega, by omega, rfl⟩
              first
                | exact snapT (fun r z => (([argS 54 a, argS 54 b, .val false [.sl true 54 r], .val false [.i .i64 z]], []) : Snap)) (newTo_yes (j := j) h1 hi (by omega) h) (wrap_next h1 hi lb)
                | exact snapT (fun r z => (([argS 54 a, argS 54 b, .val false [.sl true 54 r], .val false [.i .i64 z]], []) : Snap)) (newTo_no (j := j) h1 hi (by omega) h) (wrap_next h1 hi lb)))
      | exact rfl
      | exact (show (7 : Nat) ≤ 1024 by decide)
      | skip
  · repeat' first
      | (refine And.intro ?_ ?_)
      | (intro h; simp only [reduceCtorEq] at h; done)
      | (intro h; rw [h])
      | (intro h)
    all_goals first
      | (show lowEdges _ = true; kernel_rfl) | (show logOk _ _ = true; kernel_rfl) | exact True.intro | exact Or.inr rfl | exact Or.inl rfl
      | exact of_decide_eq_true ‹_›
      | omega
      | exact (show (7 : Nat) ≤ 1024 by decide)
      | (have hj : j < (((b.getD i.toNat []).getD 2 default).rows.length : Int) := of_decide_eq_true ‹decide (j < (((b.getD i.toNat []).getD 2 default).rows.length : Int)) = true›
         have wr : WfRow T [.i .i64, .i .i64, .i .i64, .s, .i .i64, .i .i64, .i .i64, .s, .l 60, .l 9, .l 114] (((b.getD i.toNat []).getD 2 default).rows.getD j.toNat []) := wR.row rfl (by omega)
         have hwr := wRow_le (a := ((b.getD i.toNat []).getD 2 default).rows) (k := j.toNat) (by omega)
         have er : csD (rowC [.i .i64, .i .i64, .i .i64, .s, .i .i64, .i .i64, .i .i64, .s, .l 60, .l 9, .l 114] (((b.getD i.toNat []).getD 2 default).rows.getD j.toNat [])) = ((b.getD i.toNat []).getD 2 default).rows.getD j.toNat [] := csD_rowC wr
         have ew : wRows [csD (rowC [.i .i64, .i .i64, .i .i64, .s, .i .i64, .i .i64, .i .i64, .s, .l 60, .l 9, .l 114] (((b.getD i.toNat []).getD 2 default).rows.getD j.toNat []))] = wRow (((b.getD i.toNat []).getD 2 default).rows.getD j.toNat []) := by rw [er, wRows_one]
         first
           | omega
           | exact ⟨_, _, hT, wr, rfl⟩
           | exact ⟨_, _, _, ha, rfl⟩
           | exact ⟨_, wr, by omega, rfl⟩
           | exact ⟨[csD (rowC [.i .i64, .i .i64, .i .i64, .s, .i .i64, .i .i64, .i .i64, .s, .l 60, .l 9, .l 114] (((b.getD i.toNat []).getD 2 default).rows.getD j.toNat []))], by rw [ew]; show 1 + _ ≤ _; omega, rfl⟩
           | (show (newT a (b.getD i.toNat []) j.toNat).length + 1 ≤ maxLen; simp only [maxLen]; omega)
           | (show ((newT a (b.getD i.toNat []) j.toNat).length + 1) * 152 ≤ 140737488355328; omega)
           | (refine ⟨((b.getD i.toNat []).getD 2 default).rows.length - (j + 1).toNat, by omega, false, j + 1, ?_, by omega, by omega, rfl⟩
              first
                | exact snapT (fun r z => (([argS 54 a, argS 54 b, .val false [.sl true 54 (newTo a b i.toNat)], .val false [.i .i64 i], .ptr 7 1 0, .val false [.sl false 64 (tapeOf a ((b.getD i.toNat []).getD 0 default).int ((b.getD i.toNat []).getD 1 default).int)], .val false [.i .i64 z]], [(1, [.val false [.i .i64 ((b.getD i.toNat []).getD 0 default).int], .val false [.i .i64 ((b.getD i.toNat []).getD 1 default).int], .val false [.sl true 64 r]])]) : Snap)) (newT_yes g1 hj er er h) (wrap_next g1 hj lR)
                | exact snapT (fun r z => (([argS 54 a, argS 54 b, .val false [.sl true 54 (newTo a b i.toNat)], .val false [.i .i64 i], .ptr 7 1 0, .val false [.sl false 64 (tapeOf a ((b.getD i.toNat []).getD 0 default).int ((b.getD i.toNat []).getD 1 default).int)], .val false [.i .i64 z]], [(1, [.val false [.i .i64 ((b.getD i.toNat []).getD 0 default).int], .val false [.i .i64 ((b.getD i.toNat []).getD 1 default).int], .val false [.sl true 64 r]])]) : Snap)) (newT_no g1 hj er h) (wrap_next g1 hj lR)))
      | (have hj : ¬ j < (((b.getD i.toNat []).getD 2 default).rows.length : Int) := of_decide_eq_false ‹decide (j < (((b.getD i.toNat []).getD 2 default).rows.length : Int)) = false›
         first
           | (show (newTo a b i.toNat).length + 1 ≤ maxLen; simp only [maxLen]; omega)
           | (show ((newTo a b i.toNat).length + 1) * 40 ≤ 140737488355328; omega)
           | (refine ⟨b.length - (i + 1).toNat, by omega, i + 1, ?_, by omega, by omega, rfl⟩
              first
                | exact snapT (fun r z => (([argS 54 a, argS 54 b, .val false [.sl true 54 r], .val false [.i .i64 z]], []) : Snap)) (newTo_yes (j := j) h1 hi (by omega) h) (wrap_next h1 hi lb)
                | exact snapT (fun r z => (([argS 54 a, argS 54 b, .val false [.sl true 54 r], .val false [.i .i64 z]], []) : Snap)) (newTo_no (j := j) h1 hi (by omega) h) (wrap_next h1 hi lb)))
      | exact rfl
      | exact (show (7 : Nat) ≤ 1024 by decide)
      | skip
end Go.Proofs.Ytidjlboppokloaa.Ab
