/- Copies: printed by a program of this claim. -/
import Derived.Test.YtijnlnmoellbaaaGreatTs
namespace Go.Proofs.YtijnlnmoellbaaaGreat.Ab
open Go.RowKit
set_option linter.unusedVariables false
set_option linter.unusedSimpArgs false
set_option maxRecDepth 100000
set_option maxHeartbeats 1000000
/-- laws.toCell -/
theorem ok133 : FOk Tryz.prog T 133 (toG T [.i .i64, .i .i64, .i .i64, .s, .s, .i .i64] [.i .i64, .i .i64, .i .i64, .s, .s, .i .i64]) := by
  refine fok (env := envL []) (N := 23) tabT envL_nil mixed Tryz.func133 rfl Tryz.call133 Tryz.ntmps133 ?_
  rintro args ⟨a, wa, hw, rfl⟩ hwf
  refine ⟨by simp, ?_⟩
  clear hwf
  rw [Tryz.results133]
  repeat' first
    | (refine And.intro ?_ ?_)
    | (intro h; cases h)
    | (intro h; rw [h])
    | (intro h)
  all_goals first
    | (show lowEdges _ = true; kernel_rfl) | (show logOk _ _ = true; kernel_rfl) | trivial | exact Or.inr rfl | exact Or.inl rfl
    | exact ⟨_, Nat.lt_of_lt_of_le (size_cell (by rw [wa.1]; decide)) (Nat.le_of_lt_succ hs), by first | omega | (clear wa; simp only [csD, CV.d, rowC, ofD, argG, List.zipIdx, List.map, wRow, wD, sub, List.range, List.range.loop, List.getD_cons_zero, List.getD_cons_succ, Nat.reduceAdd] at hw ⊢; done) | (clear wa; simp only [csD, CV.d, rowC, ofD, argG, List.zipIdx, List.map, wRow, wD, sub, List.range, List.range.loop, List.getD_cons_zero, List.getD_cons_succ, Nat.reduceAdd] at hw ⊢; omega), rfl⟩
    | exact ⟨_, by first | omega | (clear wa; simp only [csD, CV.d, rowC, ofD, argG, List.zipIdx, List.map, wRow, wD, sub, List.range, List.range.loop, List.getD_cons_zero, List.getD_cons_succ, Nat.reduceAdd] at hw ⊢; done) | (clear wa; simp only [csD, CV.d, rowC, ofD, argG, List.zipIdx, List.map, wRow, wD, sub, List.range, List.range.loop, List.getD_cons_zero, List.getD_cons_succ, Nat.reduceAdd] at hw ⊢; omega), rfl⟩
    | exact ⟨sub a 0 1, wa.sub 0 1 (by decide), by first | omega | (clear wa; simp only [csD, CV.d, rowC, ofD, argG, List.zipIdx, List.map, wRow, wD, sub, List.range, List.range.loop, List.getD_cons_zero, List.getD_cons_succ, Nat.reduceAdd] at hw ⊢; done) | (clear wa; simp only [csD, CV.d, rowC, ofD, argG, List.zipIdx, List.map, wRow, wD, sub, List.range, List.range.loop, List.getD_cons_zero, List.getD_cons_succ, Nat.reduceAdd] at hw ⊢; omega), rfl⟩
    | exact ⟨sub a 1 1, wa.sub 1 1 (by decide), by first | omega | (clear wa; simp only [csD, CV.d, rowC, ofD, argG, List.zipIdx, List.map, wRow, wD, sub, List.range, List.range.loop, List.getD_cons_zero, List.getD_cons_succ, Nat.reduceAdd] at hw ⊢; done) | (clear wa; simp only [csD, CV.d, rowC, ofD, argG, List.zipIdx, List.map, wRow, wD, sub, List.range, List.range.loop, List.getD_cons_zero, List.getD_cons_succ, Nat.reduceAdd] at hw ⊢; omega), rfl⟩
    | exact ⟨sub a 2 1, wa.sub 2 1 (by decide), by first | omega | (clear wa; simp only [csD, CV.d, rowC, ofD, argG, List.zipIdx, List.map, wRow, wD, sub, List.range, List.range.loop, List.getD_cons_zero, List.getD_cons_succ, Nat.reduceAdd] at hw ⊢; done) | (clear wa; simp only [csD, CV.d, rowC, ofD, argG, List.zipIdx, List.map, wRow, wD, sub, List.range, List.range.loop, List.getD_cons_zero, List.getD_cons_succ, Nat.reduceAdd] at hw ⊢; omega), rfl⟩
    | exact ⟨sub a 3 1, wa.sub 3 1 (by decide), by first | omega | (clear wa; simp only [csD, CV.d, rowC, ofD, argG, List.zipIdx, List.map, wRow, wD, sub, List.range, List.range.loop, List.getD_cons_zero, List.getD_cons_succ, Nat.reduceAdd] at hw ⊢; done) | (clear wa; simp only [csD, CV.d, rowC, ofD, argG, List.zipIdx, List.map, wRow, wD, sub, List.range, List.range.loop, List.getD_cons_zero, List.getD_cons_succ, Nat.reduceAdd] at hw ⊢; omega), rfl⟩
    | exact ⟨sub a 4 1, wa.sub 4 1 (by decide), by first | omega | (clear wa; simp only [csD, CV.d, rowC, ofD, argG, List.zipIdx, List.map, wRow, wD, sub, List.range, List.range.loop, List.getD_cons_zero, List.getD_cons_succ, Nat.reduceAdd] at hw ⊢; done) | (clear wa; simp only [csD, CV.d, rowC, ofD, argG, List.zipIdx, List.map, wRow, wD, sub, List.range, List.range.loop, List.getD_cons_zero, List.getD_cons_succ, Nat.reduceAdd] at hw ⊢; omega), rfl⟩
    | exact ⟨sub a 5 1, wa.sub 5 1 (by decide), by first | omega | (clear wa; simp only [csD, CV.d, rowC, ofD, argG, List.zipIdx, List.map, wRow, wD, sub, List.range, List.range.loop, List.getD_cons_zero, List.getD_cons_succ, Nat.reduceAdd] at hw ⊢; done) | (clear wa; simp only [csD, CV.d, rowC, ofD, argG, List.zipIdx, List.map, wRow, wD, sub, List.range, List.range.loop, List.getD_cons_zero, List.getD_cons_succ, Nat.reduceAdd] at hw ⊢; omega), rfl⟩
    | rfl
/-- laws.toCellS -/
theorem ok96 : FOk Tryz.prog T 96 (toS 176 90) := by
  refine fok (env := envL [(133, (toG T [.i .i64, .i .i64, .i .i64, .s, .s, .i .i64] [.i .i64, .i .i64, .i .i64, .s, .s, .i .i64]))]) (N := 23) tabT (envL_cons ok133 envL_nil) mixed Tryz.func96 rfl Tryz.call96 Tryz.ntmps96 ?_
  rintro args ⟨a, hw, rfl⟩ hwf
  have wa : WfD T (.l 176) (.l a) := arg0 hwf (List.mem_singleton_self _)
  clear hwf
  have la : a.length ≤ 1048576 := by omega
  refine ⟨by simp, ?_⟩
  rw [Tryz.results96]
  repeat' first
    | (refine And.intro ?_ ?_)
    | (intro h; cases h)
    | (intro h; rw [h])
    | (intro h)
  all_goals first
    | (show lowEdges _ = true; kernel_rfl) | (show logOk _ _ = true; kernel_rfl) | trivial | exact Or.inr rfl | exact Or.inl rfl
    | rfl
    | (simp only [Ty.bytes]; omega)
    | omega
    | skip
  refine awp_loop (Q := _) [0, 3, 4] [] (fun n s => ∃ i : Int, s = ([argS 176 a, .val false [.sl true 90 (fill a ([.i .i64, .i .i64, .i .i64, .s, .s, .i .i64].map zeroD) i.toNat)], .val false [.i .i64 i]], []) ∧ 0 ≤ i ∧ i ≤ a.length ∧ n = a.length - i.toNat) ?_ ?_
  · exact ⟨rfl, a.length - 0, 0, congrArg (fun z => (([argS 176 a, .val false [.sl true 90 z], .val false [.i .i64 0]], []) : Snap)) (fill_zero a _).symm, by omega, by omega, rfl⟩
  rintro n s ⟨i, rfl, h1, h2, h3⟩
  repeat' first
    | (refine And.intro ?_ ?_)
    | (intro h; cases h)
    | (intro h; rw [h])
    | (intro h)
  all_goals first
    | (show lowEdges _ = true; kernel_rfl) | (show logOk _ _ = true; kernel_rfl) | trivial | exact Or.inr rfl | exact Or.inl rfl
    | omega
    | exact of_decide_eq_true ‹_›
    | (have := of_decide_eq_true ‹decide (i < (a.length : Int)) = true›; rw [fill_length (by omega)]; omega)
    | exact congrArg (fun z => [CV.sl false 90 z]) (fill_all h1 h2 ‹_›)
    | (have hi : i < (a.length : Int) := of_decide_eq_true ‹_›
       have hk : i.toNat < a.length := by omega
       have wr : WfRow T [.i .i64, .i .i64, .i .i64, .s, .s, .i .i64] (a.getD i.toNat []) := wa.row rfl hk
       have hwr := wRow_le hk
       first
         | exact ⟨_, wr, by rw [wRow_rowC wr]; omega, rfl⟩
         | exact ⟨_, wr, Nat.lt_of_lt_of_le (size_row hk) (Nat.le_of_lt_succ hs), by rw [wRow_rowC wr]; omega, rfl⟩
         | (refine ⟨a.length - (i + 1).toNat, by omega, i + 1, ?_, by omega, by omega, rfl⟩
            have e1 := fill_next (z := ([.i .i64, .i .i64, .i .i64, .s, .s, .i .i64].map zeroD)) h1 hi (by rw [csD_rowC wr, wr.1]; rfl) (csD_rowC wr)
            have e2 : IntKind.i64.wrap (i + 1) = i + 1 := wrap_next h1 hi (Nat.le_trans la (by decide))
            exact (congrArg (fun z => (([argS 176 a, .val false [.sl true 90 z], .val false [.i .i64 (IntKind.i64.wrap (i + 1))]], []) : Snap)) e1).trans (congrArg (fun z => (([argS 176 a, .val false [.sl true 90 (fill a ([.i .i64, .i .i64, .i .i64, .s, .s, .i .i64].map zeroD) (i + 1).toNat)], .val false [.i .i64 z]], []) : Snap)) e2)))
/-- laws.toNotebook -/
theorem ok55 : FOk Tryz.prog T 55 (toG T [.l 176] [.l 90]) := by
  refine fok (env := envL [(96, (toS 176 90))]) (N := 9) tabT (envL_cons ok96 envL_nil) mixed Tryz.func55 rfl Tryz.call55 Tryz.ntmps55 ?_
  rintro args ⟨a, wa, hw, rfl⟩ hwf
  refine ⟨by simp, ?_⟩
  clear hwf
  rw [Tryz.results55]
  repeat' first
    | (refine And.intro ?_ ?_)
    | (intro h; cases h)
    | (intro h; rw [h])
    | (intro h)
  all_goals first
    | (show lowEdges _ = true; kernel_rfl) | (show logOk _ _ = true; kernel_rfl) | trivial | exact Or.inr rfl | exact Or.inl rfl
    | exact ⟨_, Nat.lt_of_lt_of_le (size_cell (by rw [wa.1]; decide)) (Nat.le_of_lt_succ hs), by first | omega | (clear wa; simp only [csD, CV.d, rowC, ofD, argG, List.zipIdx, List.map, wRow, wD, sub, List.range, List.range.loop, List.getD_cons_zero, List.getD_cons_succ, Nat.reduceAdd] at hw ⊢; done) | (clear wa; simp only [csD, CV.d, rowC, ofD, argG, List.zipIdx, List.map, wRow, wD, sub, List.range, List.range.loop, List.getD_cons_zero, List.getD_cons_succ, Nat.reduceAdd] at hw ⊢; omega), rfl⟩
    | exact ⟨_, by first | omega | (clear wa; simp only [csD, CV.d, rowC, ofD, argG, List.zipIdx, List.map, wRow, wD, sub, List.range, List.range.loop, List.getD_cons_zero, List.getD_cons_succ, Nat.reduceAdd] at hw ⊢; done) | (clear wa; simp only [csD, CV.d, rowC, ofD, argG, List.zipIdx, List.map, wRow, wD, sub, List.range, List.range.loop, List.getD_cons_zero, List.getD_cons_succ, Nat.reduceAdd] at hw ⊢; omega), rfl⟩
    | exact ⟨sub a 0 1, wa.sub 0 1 (by decide), by first | omega | (clear wa; simp only [csD, CV.d, rowC, ofD, argG, List.zipIdx, List.map, wRow, wD, sub, List.range, List.range.loop, List.getD_cons_zero, List.getD_cons_succ, Nat.reduceAdd] at hw ⊢; done) | (clear wa; simp only [csD, CV.d, rowC, ofD, argG, List.zipIdx, List.map, wRow, wD, sub, List.range, List.range.loop, List.getD_cons_zero, List.getD_cons_succ, Nat.reduceAdd] at hw ⊢; omega), rfl⟩
    | rfl
/-- laws.toFile -/
theorem ok134 : FOk Tryz.prog T 134 (toG T [.s, .i .i64] [.s, .i .i64]) := by
  refine fok (env := envL []) (N := 11) tabT envL_nil mixed Tryz.func134 rfl Tryz.call134 Tryz.ntmps134 ?_
  rintro args ⟨a, wa, hw, rfl⟩ hwf
  refine ⟨by simp, ?_⟩
  clear hwf
  rw [Tryz.results134]
  repeat' first
    | (refine And.intro ?_ ?_)
    | (intro h; cases h)
    | (intro h; rw [h])
    | (intro h)
  all_goals first
    | (show lowEdges _ = true; kernel_rfl) | (show logOk _ _ = true; kernel_rfl) | trivial | exact Or.inr rfl | exact Or.inl rfl
    | exact ⟨_, Nat.lt_of_lt_of_le (size_cell (by rw [wa.1]; decide)) (Nat.le_of_lt_succ hs), by first | omega | (clear wa; simp only [csD, CV.d, rowC, ofD, argG, List.zipIdx, List.map, wRow, wD, sub, List.range, List.range.loop, List.getD_cons_zero, List.getD_cons_succ, Nat.reduceAdd] at hw ⊢; done) | (clear wa; simp only [csD, CV.d, rowC, ofD, argG, List.zipIdx, List.map, wRow, wD, sub, List.range, List.range.loop, List.getD_cons_zero, List.getD_cons_succ, Nat.reduceAdd] at hw ⊢; omega), rfl⟩
    | exact ⟨_, by first | omega | (clear wa; simp only [csD, CV.d, rowC, ofD, argG, List.zipIdx, List.map, wRow, wD, sub, List.range, List.range.loop, List.getD_cons_zero, List.getD_cons_succ, Nat.reduceAdd] at hw ⊢; done) | (clear wa; simp only [csD, CV.d, rowC, ofD, argG, List.zipIdx, List.map, wRow, wD, sub, List.range, List.range.loop, List.getD_cons_zero, List.getD_cons_succ, Nat.reduceAdd] at hw ⊢; omega), rfl⟩
    | exact ⟨sub a 0 1, wa.sub 0 1 (by decide), by first | omega | (clear wa; simp only [csD, CV.d, rowC, ofD, argG, List.zipIdx, List.map, wRow, wD, sub, List.range, List.range.loop, List.getD_cons_zero, List.getD_cons_succ, Nat.reduceAdd] at hw ⊢; done) | (clear wa; simp only [csD, CV.d, rowC, ofD, argG, List.zipIdx, List.map, wRow, wD, sub, List.range, List.range.loop, List.getD_cons_zero, List.getD_cons_succ, Nat.reduceAdd] at hw ⊢; omega), rfl⟩
    | exact ⟨sub a 1 1, wa.sub 1 1 (by decide), by first | omega | (clear wa; simp only [csD, CV.d, rowC, ofD, argG, List.zipIdx, List.map, wRow, wD, sub, List.range, List.range.loop, List.getD_cons_zero, List.getD_cons_succ, Nat.reduceAdd] at hw ⊢; done) | (clear wa; simp only [csD, CV.d, rowC, ofD, argG, List.zipIdx, List.map, wRow, wD, sub, List.range, List.range.loop, List.getD_cons_zero, List.getD_cons_succ, Nat.reduceAdd] at hw ⊢; omega), rfl⟩
    | rfl
/-- laws.toFileS -/
theorem ok97 : FOk Tryz.prog T 97 (toS 178 116) := by
  refine fok (env := envL [(134, (toG T [.s, .i .i64] [.s, .i .i64]))]) (N := 23) tabT (envL_cons ok134 envL_nil) mixed Tryz.func97 rfl Tryz.call97 Tryz.ntmps97 ?_
  rintro args ⟨a, hw, rfl⟩ hwf
  have wa : WfD T (.l 178) (.l a) := arg0 hwf (List.mem_singleton_self _)
  clear hwf
  have la : a.length ≤ 1048576 := by omega
  refine ⟨by simp, ?_⟩
  rw [Tryz.results97]
  repeat' first
    | (refine And.intro ?_ ?_)
    | (intro h; cases h)
    | (intro h; rw [h])
    | (intro h)
  all_goals first
    | (show lowEdges _ = true; kernel_rfl) | (show logOk _ _ = true; kernel_rfl) | trivial | exact Or.inr rfl | exact Or.inl rfl
    | rfl
    | (simp only [Ty.bytes]; omega)
    | omega
    | skip
  refine awp_loop (Q := _) [0, 3, 4] [] (fun n s => ∃ i : Int, s = ([argS 178 a, .val false [.sl true 116 (fill a ([.s, .i .i64].map zeroD) i.toNat)], .val false [.i .i64 i]], []) ∧ 0 ≤ i ∧ i ≤ a.length ∧ n = a.length - i.toNat) ?_ ?_
  · exact ⟨rfl, a.length - 0, 0, congrArg (fun z => (([argS 178 a, .val false [.sl true 116 z], .val false [.i .i64 0]], []) : Snap)) (fill_zero a _).symm, by omega, by omega, rfl⟩
  rintro n s ⟨i, rfl, h1, h2, h3⟩
  repeat' first
    | (refine And.intro ?_ ?_)
    | (intro h; cases h)
    | (intro h; rw [h])
    | (intro h)
  all_goals first
    | (show lowEdges _ = true; kernel_rfl) | (show logOk _ _ = true; kernel_rfl) | trivial | exact Or.inr rfl | exact Or.inl rfl
    | omega
    | exact of_decide_eq_true ‹_›
    | (have := of_decide_eq_true ‹decide (i < (a.length : Int)) = true›; rw [fill_length (by omega)]; omega)
    | exact congrArg (fun z => [CV.sl false 116 z]) (fill_all h1 h2 ‹_›)
    | (have hi : i < (a.length : Int) := of_decide_eq_true ‹_›
       have hk : i.toNat < a.length := by omega
       have wr : WfRow T [.s, .i .i64] (a.getD i.toNat []) := wa.row rfl hk
       have hwr := wRow_le hk
       first
         | exact ⟨_, wr, by rw [wRow_rowC wr]; omega, rfl⟩
         | exact ⟨_, wr, Nat.lt_of_lt_of_le (size_row hk) (Nat.le_of_lt_succ hs), by rw [wRow_rowC wr]; omega, rfl⟩
         | (refine ⟨a.length - (i + 1).toNat, by omega, i + 1, ?_, by omega, by omega, rfl⟩
            have e1 := fill_next (z := ([.s, .i .i64].map zeroD)) h1 hi (by rw [csD_rowC wr, wr.1]; rfl) (csD_rowC wr)
            have e2 : IntKind.i64.wrap (i + 1) = i + 1 := wrap_next h1 hi (Nat.le_trans la (by decide))
            exact (congrArg (fun z => (([argS 178 a, .val false [.sl true 116 z], .val false [.i .i64 (IntKind.i64.wrap (i + 1))]], []) : Snap)) e1).trans (congrArg (fun z => (([argS 178 a, .val false [.sl true 116 (fill a ([.s, .i .i64].map zeroD) (i + 1).toNat)], .val false [.i .i64 z]], []) : Snap)) e2)))
/-- laws.toWorld -/
theorem ok56 : FOk Tryz.prog T 56 (toG T [.i .i64, .i .i64, .l 178] [.i .i64, .i .i64, .l 116]) := by
  refine fok (env := envL [(97, (toS 178 116))]) (N := 15) tabT (envL_cons ok97 envL_nil) mixed Tryz.func56 rfl Tryz.call56 Tryz.ntmps56 ?_
  rintro args ⟨a, wa, hw, rfl⟩ hwf
  refine ⟨by simp, ?_⟩
  clear hwf
  rw [Tryz.results56]
  repeat' first
    | (refine And.intro ?_ ?_)
    | (intro h; cases h)
    | (intro h; rw [h])
    | (intro h)
  all_goals first
    | (show lowEdges _ = true; kernel_rfl) | (show logOk _ _ = true; kernel_rfl) | trivial | exact Or.inr rfl | exact Or.inl rfl
    | exact ⟨_, Nat.lt_of_lt_of_le (size_cell (by rw [wa.1]; decide)) (Nat.le_of_lt_succ hs), by first | omega | (clear wa; simp only [csD, CV.d, rowC, ofD, argG, List.zipIdx, List.map, wRow, wD, sub, List.range, List.range.loop, List.getD_cons_zero, List.getD_cons_succ, Nat.reduceAdd] at hw ⊢; done) | (clear wa; simp only [csD, CV.d, rowC, ofD, argG, List.zipIdx, List.map, wRow, wD, sub, List.range, List.range.loop, List.getD_cons_zero, List.getD_cons_succ, Nat.reduceAdd] at hw ⊢; omega), rfl⟩
    | exact ⟨_, by first | omega | (clear wa; simp only [csD, CV.d, rowC, ofD, argG, List.zipIdx, List.map, wRow, wD, sub, List.range, List.range.loop, List.getD_cons_zero, List.getD_cons_succ, Nat.reduceAdd] at hw ⊢; done) | (clear wa; simp only [csD, CV.d, rowC, ofD, argG, List.zipIdx, List.map, wRow, wD, sub, List.range, List.range.loop, List.getD_cons_zero, List.getD_cons_succ, Nat.reduceAdd] at hw ⊢; omega), rfl⟩
    | exact ⟨sub a 0 1, wa.sub 0 1 (by decide), by first | omega | (clear wa; simp only [csD, CV.d, rowC, ofD, argG, List.zipIdx, List.map, wRow, wD, sub, List.range, List.range.loop, List.getD_cons_zero, List.getD_cons_succ, Nat.reduceAdd] at hw ⊢; done) | (clear wa; simp only [csD, CV.d, rowC, ofD, argG, List.zipIdx, List.map, wRow, wD, sub, List.range, List.range.loop, List.getD_cons_zero, List.getD_cons_succ, Nat.reduceAdd] at hw ⊢; omega), rfl⟩
    | exact ⟨sub a 1 1, wa.sub 1 1 (by decide), by first | omega | (clear wa; simp only [csD, CV.d, rowC, ofD, argG, List.zipIdx, List.map, wRow, wD, sub, List.range, List.range.loop, List.getD_cons_zero, List.getD_cons_succ, Nat.reduceAdd] at hw ⊢; done) | (clear wa; simp only [csD, CV.d, rowC, ofD, argG, List.zipIdx, List.map, wRow, wD, sub, List.range, List.range.loop, List.getD_cons_zero, List.getD_cons_succ, Nat.reduceAdd] at hw ⊢; omega), rfl⟩
    | exact ⟨sub a 2 1, wa.sub 2 1 (by decide), by first | omega | (clear wa; simp only [csD, CV.d, rowC, ofD, argG, List.zipIdx, List.map, wRow, wD, sub, List.range, List.range.loop, List.getD_cons_zero, List.getD_cons_succ, Nat.reduceAdd] at hw ⊢; done) | (clear wa; simp only [csD, CV.d, rowC, ofD, argG, List.zipIdx, List.map, wRow, wD, sub, List.range, List.range.loop, List.getD_cons_zero, List.getD_cons_succ, Nat.reduceAdd] at hw ⊢; omega), rfl⟩
    | rfl
/-- laws.toStringS -/
theorem ok169 : FOk Tryz.prog T 169 (toS 9 9) := by
  refine fok (env := envL []) (N := 22) tabT envL_nil mixed Tryz.func169 rfl Tryz.call169 Tryz.ntmps169 ?_
  rintro args ⟨a, hw, rfl⟩ hwf
  have wa : WfD T (.l 9) (.l a) := arg0 hwf (List.mem_singleton_self _)
  clear hwf
  have la : a.length ≤ 1048576 := by omega
  refine ⟨by simp, ?_⟩
  rw [Tryz.results169]
  repeat' first
    | (refine And.intro ?_ ?_)
    | (intro h; cases h)
    | (intro h; rw [h])
    | (intro h)
  all_goals first
    | (show lowEdges _ = true; kernel_rfl) | (show logOk _ _ = true; kernel_rfl) | trivial | exact Or.inr rfl | exact Or.inl rfl
    | rfl
    | (simp only [Ty.bytes]; omega)
    | omega
    | skip
  refine awp_loop (Q := _) [0, 3, 4] [] (fun n s => ∃ i : Int, s = ([argS 9 a, .val false [.sl true 9 (fill a ([.s].map zeroD) i.toNat)], .val false [.i .i64 i]], []) ∧ 0 ≤ i ∧ i ≤ a.length ∧ n = a.length - i.toNat) ?_ ?_
  · exact ⟨rfl, a.length - 0, 0, congrArg (fun z => (([argS 9 a, .val false [.sl true 9 z], .val false [.i .i64 0]], []) : Snap)) (fill_zero a _).symm, by omega, by omega, rfl⟩
  rintro n s ⟨i, rfl, h1, h2, h3⟩
  repeat' first
    | (refine And.intro ?_ ?_)
    | (intro h; cases h)
    | (intro h; rw [h])
    | (intro h)
  all_goals first
    | (show lowEdges _ = true; kernel_rfl) | (show logOk _ _ = true; kernel_rfl) | trivial | exact Or.inr rfl | exact Or.inl rfl
    | omega
    | exact of_decide_eq_true ‹_›
    | (have := of_decide_eq_true ‹decide (i < (a.length : Int)) = true›; rw [fill_length (by omega)]; omega)
    | exact congrArg (fun z => [CV.sl false 9 z]) (fill_all h1 h2 ‹_›)
    | (have hi : i < (a.length : Int) := of_decide_eq_true ‹_›
       have hk : i.toNat < a.length := by omega
       have wr : WfRow T [.s] (a.getD i.toNat []) := wa.row rfl hk
       have hwr := wRow_le hk
       first
         | exact ⟨_, wr, by rw [wRow_rowC wr]; omega, rfl⟩
         | exact ⟨_, wr, Nat.lt_of_lt_of_le (size_row hk) (Nat.le_of_lt_succ hs), by rw [wRow_rowC wr]; omega, rfl⟩
         | (refine ⟨a.length - (i + 1).toNat, by omega, i + 1, ?_, by omega, by omega, rfl⟩
            have e1 := fill_next (z := ([.s].map zeroD)) h1 hi (by rw [csD_rowC wr, wr.1]; rfl) (csD_rowC wr)
            have e2 : IntKind.i64.wrap (i + 1) = i + 1 := wrap_next h1 hi (Nat.le_trans la (by decide))
            exact (congrArg (fun z => (([argS 9 a, .val false [.sl true 9 z], .val false [.i .i64 (IntKind.i64.wrap (i + 1))]], []) : Snap)) e1).trans (congrArg (fun z => (([argS 9 a, .val false [.sl true 9 (fill a ([.s].map zeroD) (i + 1).toNat)], .val false [.i .i64 z]], []) : Snap)) e2)))
/-- laws.toIntS -/
theorem ok136 : FOk Tryz.prog T 136 (toS 3 3) := by
  refine fok (env := envL []) (N := 22) tabT envL_nil mixed Tryz.func136 rfl Tryz.call136 Tryz.ntmps136 ?_
  rintro args ⟨a, hw, rfl⟩ hwf
  have wa : WfD T (.l 3) (.l a) := arg0 hwf (List.mem_singleton_self _)
  clear hwf
  have la : a.length ≤ 1048576 := by omega
  refine ⟨by simp, ?_⟩
  rw [Tryz.results136]
  repeat' first
    | (refine And.intro ?_ ?_)
    | (intro h; cases h)
    | (intro h; rw [h])
    | (intro h)
  all_goals first
    | (show lowEdges _ = true; kernel_rfl) | (show logOk _ _ = true; kernel_rfl) | trivial | exact Or.inr rfl | exact Or.inl rfl
    | rfl
    | (simp only [Ty.bytes]; omega)
    | omega
    | skip
  refine awp_loop (Q := _) [0, 3, 4] [] (fun n s => ∃ i : Int, s = ([argS 3 a, .val false [.sl true 3 (fill a ([.i .i64].map zeroD) i.toNat)], .val false [.i .i64 i]], []) ∧ 0 ≤ i ∧ i ≤ a.length ∧ n = a.length - i.toNat) ?_ ?_
  · exact ⟨rfl, a.length - 0, 0, congrArg (fun z => (([argS 3 a, .val false [.sl true 3 z], .val false [.i .i64 0]], []) : Snap)) (fill_zero a _).symm, by omega, by omega, rfl⟩
  rintro n s ⟨i, rfl, h1, h2, h3⟩
  repeat' first
    | (refine And.intro ?_ ?_)
    | (intro h; cases h)
    | (intro h; rw [h])
    | (intro h)
  all_goals first
    | (show lowEdges _ = true; kernel_rfl) | (show logOk _ _ = true; kernel_rfl) | trivial | exact Or.inr rfl | exact Or.inl rfl
    | omega
    | exact of_decide_eq_true ‹_›
    | (have := of_decide_eq_true ‹decide (i < (a.length : Int)) = true›; rw [fill_length (by omega)]; omega)
    | exact congrArg (fun z => [CV.sl false 3 z]) (fill_all h1 h2 ‹_›)
    | (have hi : i < (a.length : Int) := of_decide_eq_true ‹_›
       have hk : i.toNat < a.length := by omega
       have wr : WfRow T [.i .i64] (a.getD i.toNat []) := wa.row rfl hk
       have hwr := wRow_le hk
       first
         | exact ⟨_, wr, by rw [wRow_rowC wr]; omega, rfl⟩
         | exact ⟨_, wr, Nat.lt_of_lt_of_le (size_row hk) (Nat.le_of_lt_succ hs), by rw [wRow_rowC wr]; omega, rfl⟩
         | (refine ⟨a.length - (i + 1).toNat, by omega, i + 1, ?_, by omega, by omega, rfl⟩
            have e1 := fill_next (z := ([.i .i64].map zeroD)) h1 hi (by rw [csD_rowC wr, wr.1]; rfl) (csD_rowC wr)
            have e2 : IntKind.i64.wrap (i + 1) = i + 1 := wrap_next h1 hi (Nat.le_trans la (by decide))
            exact (congrArg (fun z => (([argS 3 a, .val false [.sl true 3 z], .val false [.i .i64 (IntKind.i64.wrap (i + 1))]], []) : Snap)) e1).trans (congrArg (fun z => (([argS 3 a, .val false [.sl true 3 (fill a ([.i .i64].map zeroD) (i + 1).toNat)], .val false [.i .i64 z]], []) : Snap)) e2)))
/-- laws.toOrigin -/
theorem ok208 : FOk Tryz.prog T 208 (toG T [.i .i64, .i .i64] [.i .i64, .i .i64]) := by
  refine fok (env := envL []) (N := 11) tabT envL_nil mixed Tryz.func208 rfl Tryz.call208 Tryz.ntmps208 ?_
  rintro args ⟨a, wa, hw, rfl⟩ hwf
  refine ⟨by simp, ?_⟩
  clear hwf
  rw [Tryz.results208]
  repeat' first
    | (refine And.intro ?_ ?_)
    | (intro h; cases h)
    | (intro h; rw [h])
    | (intro h)
  all_goals first
    | (show lowEdges _ = true; kernel_rfl) | (show logOk _ _ = true; kernel_rfl) | trivial | exact Or.inr rfl | exact Or.inl rfl
    | exact ⟨_, Nat.lt_of_lt_of_le (size_cell (by rw [wa.1]; decide)) (Nat.le_of_lt_succ hs), by first | omega | (clear wa; simp only [csD, CV.d, rowC, ofD, argG, List.zipIdx, List.map, wRow, wD, sub, List.range, List.range.loop, List.getD_cons_zero, List.getD_cons_succ, Nat.reduceAdd] at hw ⊢; done) | (clear wa; simp only [csD, CV.d, rowC, ofD, argG, List.zipIdx, List.map, wRow, wD, sub, List.range, List.range.loop, List.getD_cons_zero, List.getD_cons_succ, Nat.reduceAdd] at hw ⊢; omega), rfl⟩
    | exact ⟨_, by first | omega | (clear wa; simp only [csD, CV.d, rowC, ofD, argG, List.zipIdx, List.map, wRow, wD, sub, List.range, List.range.loop, List.getD_cons_zero, List.getD_cons_succ, Nat.reduceAdd] at hw ⊢; done) | (clear wa; simp only [csD, CV.d, rowC, ofD, argG, List.zipIdx, List.map, wRow, wD, sub, List.range, List.range.loop, List.getD_cons_zero, List.getD_cons_succ, Nat.reduceAdd] at hw ⊢; omega), rfl⟩
    | exact ⟨sub a 0 1, wa.sub 0 1 (by decide), by first | omega | (clear wa; simp only [csD, CV.d, rowC, ofD, argG, List.zipIdx, List.map, wRow, wD, sub, List.range, List.range.loop, List.getD_cons_zero, List.getD_cons_succ, Nat.reduceAdd] at hw ⊢; done) | (clear wa; simp only [csD, CV.d, rowC, ofD, argG, List.zipIdx, List.map, wRow, wD, sub, List.range, List.range.loop, List.getD_cons_zero, List.getD_cons_succ, Nat.reduceAdd] at hw ⊢; omega), rfl⟩
    | exact ⟨sub a 1 1, wa.sub 1 1 (by decide), by first | omega | (clear wa; simp only [csD, CV.d, rowC, ofD, argG, List.zipIdx, List.map, wRow, wD, sub, List.range, List.range.loop, List.getD_cons_zero, List.getD_cons_succ, Nat.reduceAdd] at hw ⊢; done) | (clear wa; simp only [csD, CV.d, rowC, ofD, argG, List.zipIdx, List.map, wRow, wD, sub, List.range, List.range.loop, List.getD_cons_zero, List.getD_cons_succ, Nat.reduceAdd] at hw ⊢; omega), rfl⟩
    | rfl
/-- laws.toOriginS -/
theorem ok198 : FOk Tryz.prog T 198 (toS 254 198) := by
  refine fok (env := envL [(208, (toG T [.i .i64, .i .i64] [.i .i64, .i .i64]))]) (N := 23) tabT (envL_cons ok208 envL_nil) mixed Tryz.func198 rfl Tryz.call198 Tryz.ntmps198 ?_
  rintro args ⟨a, hw, rfl⟩ hwf
  have wa : WfD T (.l 254) (.l a) := arg0 hwf (List.mem_singleton_self _)
  clear hwf
  have la : a.length ≤ 1048576 := by omega
  refine ⟨by simp, ?_⟩
  rw [Tryz.results198]
  repeat' first
    | (refine And.intro ?_ ?_)
    | (intro h; cases h)
    | (intro h; rw [h])
    | (intro h)
  all_goals first
    | (show lowEdges _ = true; kernel_rfl) | (show logOk _ _ = true; kernel_rfl) | trivial | exact Or.inr rfl | exact Or.inl rfl
    | rfl
    | (simp only [Ty.bytes]; omega)
    | omega
    | skip
  refine awp_loop (Q := _) [0, 3, 4] [] (fun n s => ∃ i : Int, s = ([argS 254 a, .val false [.sl true 198 (fill a ([.i .i64, .i .i64].map zeroD) i.toNat)], .val false [.i .i64 i]], []) ∧ 0 ≤ i ∧ i ≤ a.length ∧ n = a.length - i.toNat) ?_ ?_
  · exact ⟨rfl, a.length - 0, 0, congrArg (fun z => (([argS 254 a, .val false [.sl true 198 z], .val false [.i .i64 0]], []) : Snap)) (fill_zero a _).symm, by omega, by omega, rfl⟩
  rintro n s ⟨i, rfl, h1, h2, h3⟩
  repeat' first
    | (refine And.intro ?_ ?_)
    | (intro h; cases h)
    | (intro h; rw [h])
    | (intro h)
  all_goals first
    | (show lowEdges _ = true; kernel_rfl) | (show logOk _ _ = true; kernel_rfl) | trivial | exact Or.inr rfl | exact Or.inl rfl
    | omega
    | exact of_decide_eq_true ‹_›
    | (have := of_decide_eq_true ‹decide (i < (a.length : Int)) = true›; rw [fill_length (by omega)]; omega)
    | exact congrArg (fun z => [CV.sl false 198 z]) (fill_all h1 h2 ‹_›)
    | (have hi : i < (a.length : Int) := of_decide_eq_true ‹_›
       have hk : i.toNat < a.length := by omega
       have wr : WfRow T [.i .i64, .i .i64] (a.getD i.toNat []) := wa.row rfl hk
       have hwr := wRow_le hk
       first
         | exact ⟨_, wr, by rw [wRow_rowC wr]; omega, rfl⟩
         | exact ⟨_, wr, Nat.lt_of_lt_of_le (size_row hk) (Nat.le_of_lt_succ hs), by rw [wRow_rowC wr]; omega, rfl⟩
         | (refine ⟨a.length - (i + 1).toNat, by omega, i + 1, ?_, by omega, by omega, rfl⟩
            have e1 := fill_next (z := ([.i .i64, .i .i64].map zeroD)) h1 hi (by rw [csD_rowC wr, wr.1]; rfl) (csD_rowC wr)
            have e2 : IntKind.i64.wrap (i + 1) = i + 1 := wrap_next h1 hi (Nat.le_trans la (by decide))
            exact (congrArg (fun z => (([argS 254 a, .val false [.sl true 198 z], .val false [.i .i64 (IntKind.i64.wrap (i + 1))]], []) : Snap)) e1).trans (congrArg (fun z => (([argS 254 a, .val false [.sl true 198 (fill a ([.i .i64, .i .i64].map zeroD) (i + 1).toNat)], .val false [.i .i64 z]], []) : Snap)) e2)))
/-- laws.toRow -/
theorem ok183 : FOk Tryz.prog T 183 (toG T [.l 3, .l 254] [.l 3, .l 198]) := by
  refine fok (env := envL [(136, (toS 3 3)), (198, (toS 254 198))]) (N := 13) tabT (envL_cons ok136 (envL_cons ok198 envL_nil)) mixed Tryz.func183 rfl Tryz.call183 Tryz.ntmps183 ?_
  rintro args ⟨a, wa, hw, rfl⟩ hwf
  refine ⟨by simp, ?_⟩
  clear hwf
  rw [Tryz.results183]
  repeat' first
    | (refine And.intro ?_ ?_)
    | (intro h; cases h)
    | (intro h; rw [h])
    | (intro h)
  all_goals first
    | (show lowEdges _ = true; kernel_rfl) | (show logOk _ _ = true; kernel_rfl) | trivial | exact Or.inr rfl | exact Or.inl rfl
    | exact ⟨_, Nat.lt_of_lt_of_le (size_cell (by rw [wa.1]; decide)) (Nat.le_of_lt_succ hs), by first | omega | (clear wa; simp only [csD, CV.d, rowC, ofD, argG, List.zipIdx, List.map, wRow, wD, sub, List.range, List.range.loop, List.getD_cons_zero, List.getD_cons_succ, Nat.reduceAdd] at hw ⊢; done) | (clear wa; simp only [csD, CV.d, rowC, ofD, argG, List.zipIdx, List.map, wRow, wD, sub, List.range, List.range.loop, List.getD_cons_zero, List.getD_cons_succ, Nat.reduceAdd] at hw ⊢; omega), rfl⟩
    | exact ⟨_, by first | omega | (clear wa; simp only [csD, CV.d, rowC, ofD, argG, List.zipIdx, List.map, wRow, wD, sub, List.range, List.range.loop, List.getD_cons_zero, List.getD_cons_succ, Nat.reduceAdd] at hw ⊢; done) | (clear wa; simp only [csD, CV.d, rowC, ofD, argG, List.zipIdx, List.map, wRow, wD, sub, List.range, List.range.loop, List.getD_cons_zero, List.getD_cons_succ, Nat.reduceAdd] at hw ⊢; omega), rfl⟩
    | exact ⟨sub a 0 1, wa.sub 0 1 (by decide), by first | omega | (clear wa; simp only [csD, CV.d, rowC, ofD, argG, List.zipIdx, List.map, wRow, wD, sub, List.range, List.range.loop, List.getD_cons_zero, List.getD_cons_succ, Nat.reduceAdd] at hw ⊢; done) | (clear wa; simp only [csD, CV.d, rowC, ofD, argG, List.zipIdx, List.map, wRow, wD, sub, List.range, List.range.loop, List.getD_cons_zero, List.getD_cons_succ, Nat.reduceAdd] at hw ⊢; omega), rfl⟩
    | exact ⟨sub a 1 1, wa.sub 1 1 (by decide), by first | omega | (clear wa; simp only [csD, CV.d, rowC, ofD, argG, List.zipIdx, List.map, wRow, wD, sub, List.range, List.range.loop, List.getD_cons_zero, List.getD_cons_succ, Nat.reduceAdd] at hw ⊢; done) | (clear wa; simp only [csD, CV.d, rowC, ofD, argG, List.zipIdx, List.map, wRow, wD, sub, List.range, List.range.loop, List.getD_cons_zero, List.getD_cons_succ, Nat.reduceAdd] at hw ⊢; omega), rfl⟩
    | rfl
/-- laws.toRowS -/
theorem ok170 : FOk Tryz.prog T 170 (toS 234 189) := by
  refine fok (env := envL [(183, (toG T [.l 3, .l 254] [.l 3, .l 198]))]) (N := 23) tabT (envL_cons ok183 envL_nil) mixed Tryz.func170 rfl Tryz.call170 Tryz.ntmps170 ?_
  rintro args ⟨a, hw, rfl⟩ hwf
  have wa : WfD T (.l 234) (.l a) := arg0 hwf (List.mem_singleton_self _)
  clear hwf
  have la : a.length ≤ 1048576 := by omega
  refine ⟨by simp, ?_⟩
  rw [Tryz.results170]
  repeat' first
    | (refine And.intro ?_ ?_)
    | (intro h; cases h)
    | (intro h; rw [h])
    | (intro h)
  all_goals first
    | (show lowEdges _ = true; kernel_rfl) | (show logOk _ _ = true; kernel_rfl) | trivial | exact Or.inr rfl | exact Or.inl rfl
    | rfl
    | (simp only [Ty.bytes]; omega)
    | omega
    | skip
  refine awp_loop (Q := _) [0, 3, 4] [] (fun n s => ∃ i : Int, s = ([argS 234 a, .val false [.sl true 189 (fill a ([.l 3, .l 198].map zeroD) i.toNat)], .val false [.i .i64 i]], []) ∧ 0 ≤ i ∧ i ≤ a.length ∧ n = a.length - i.toNat) ?_ ?_
  · exact ⟨rfl, a.length - 0, 0, congrArg (fun z => (([argS 234 a, .val false [.sl true 189 z], .val false [.i .i64 0]], []) : Snap)) (fill_zero a _).symm, by omega, by omega, rfl⟩
  rintro n s ⟨i, rfl, h1, h2, h3⟩
  repeat' first
    | (refine And.intro ?_ ?_)
    | (intro h; cases h)
    | (intro h; rw [h])
    | (intro h)
  all_goals first
    | (show lowEdges _ = true; kernel_rfl) | (show logOk _ _ = true; kernel_rfl) | trivial | exact Or.inr rfl | exact Or.inl rfl
    | omega
    | exact of_decide_eq_true ‹_›
    | (have := of_decide_eq_true ‹decide (i < (a.length : Int)) = true›; rw [fill_length (by omega)]; omega)
    | exact congrArg (fun z => [CV.sl false 189 z]) (fill_all h1 h2 ‹_›)
    | (have hi : i < (a.length : Int) := of_decide_eq_true ‹_›
       have hk : i.toNat < a.length := by omega
       have wr : WfRow T [.l 3, .l 254] (a.getD i.toNat []) := wa.row rfl hk
       have hwr := wRow_le hk
       first
         | exact ⟨_, wr, by rw [wRow_rowC wr]; omega, rfl⟩
         | exact ⟨_, wr, Nat.lt_of_lt_of_le (size_row hk) (Nat.le_of_lt_succ hs), by rw [wRow_rowC wr]; omega, rfl⟩
         | (refine ⟨a.length - (i + 1).toNat, by omega, i + 1, ?_, by omega, by omega, rfl⟩
            have e1 := fill_next (z := ([.l 3, .l 198].map zeroD)) h1 hi (by rw [csD_rowC wr, wr.1]; rfl) (csD_rowC wr)
            have e2 : IntKind.i64.wrap (i + 1) = i + 1 := wrap_next h1 hi (Nat.le_trans la (by decide))
            exact (congrArg (fun z => (([argS 234 a, .val false [.sl true 189 z], .val false [.i .i64 (IntKind.i64.wrap (i + 1))]], []) : Snap)) e1).trans (congrArg (fun z => (([argS 234 a, .val false [.sl true 189 (fill a ([.l 3, .l 198].map zeroD) (i + 1).toNat)], .val false [.i .i64 z]], []) : Snap)) e2)))
/-- laws.toValue -/
theorem step137 (n : Nat) (hn : FOk Tryz.prog T 168 (toSn 144 103 n)) : FOk Tryz.prog T 137 (toGn T [.i .i64, .i .i64, .i .i64, .s, .l 144, .l 9, .l 234] [.i .i64, .i .i64, .i .i64, .s, .l 103, .l 9, .l 189] (n + 1)) := by
  refine fok (env := envL [(168, (toSn 144 103 n)), (169, (toS 9 9)), (170, (toS 234 189))]) (N := 29) tabT (envL_cons hn (envL_cons ok169 (envL_cons ok170 envL_nil))) mixed Tryz.func137 rfl Tryz.call137 Tryz.ntmps137 ?_
  rintro args ⟨a, wa, hs, hw, rfl⟩ hwf
  refine ⟨by simp, ?_⟩
  clear hwf
  rw [Tryz.results137]
  repeat' first
    | (refine And.intro ?_ ?_)
    | (intro h; cases h)
    | (intro h; rw [h])
    | (intro h)
  all_goals first
    | (show lowEdges _ = true; kernel_rfl) | (show logOk _ _ = true; kernel_rfl) | trivial | exact Or.inr rfl | exact Or.inl rfl
    | exact ⟨_, Nat.lt_of_lt_of_le (size_cell (by rw [wa.1]; decide)) (Nat.le_of_lt_succ hs), by first | omega | (clear wa; simp only [csD, CV.d, rowC, ofD, argG, List.zipIdx, List.map, wRow, wD, sub, List.range, List.range.loop, List.getD_cons_zero, List.getD_cons_succ, Nat.reduceAdd] at hw ⊢; done) | (clear wa; simp only [csD, CV.d, rowC, ofD, argG, List.zipIdx, List.map, wRow, wD, sub, List.range, List.range.loop, List.getD_cons_zero, List.getD_cons_succ, Nat.reduceAdd] at hw ⊢; omega), rfl⟩
    | exact ⟨_, by first | omega | (clear wa; simp only [csD, CV.d, rowC, ofD, argG, List.zipIdx, List.map, wRow, wD, sub, List.range, List.range.loop, List.getD_cons_zero, List.getD_cons_succ, Nat.reduceAdd] at hw ⊢; done) | (clear wa; simp only [csD, CV.d, rowC, ofD, argG, List.zipIdx, List.map, wRow, wD, sub, List.range, List.range.loop, List.getD_cons_zero, List.getD_cons_succ, Nat.reduceAdd] at hw ⊢; omega), rfl⟩
    | exact ⟨sub a 0 1, wa.sub 0 1 (by decide), by first | omega | (clear wa; simp only [csD, CV.d, rowC, ofD, argG, List.zipIdx, List.map, wRow, wD, sub, List.range, List.range.loop, List.getD_cons_zero, List.getD_cons_succ, Nat.reduceAdd] at hw ⊢; done) | (clear wa; simp only [csD, CV.d, rowC, ofD, argG, List.zipIdx, List.map, wRow, wD, sub, List.range, List.range.loop, List.getD_cons_zero, List.getD_cons_succ, Nat.reduceAdd] at hw ⊢; omega), rfl⟩
    | exact ⟨sub a 1 1, wa.sub 1 1 (by decide), by first | omega | (clear wa; simp only [csD, CV.d, rowC, ofD, argG, List.zipIdx, List.map, wRow, wD, sub, List.range, List.range.loop, List.getD_cons_zero, List.getD_cons_succ, Nat.reduceAdd] at hw ⊢; done) | (clear wa; simp only [csD, CV.d, rowC, ofD, argG, List.zipIdx, List.map, wRow, wD, sub, List.range, List.range.loop, List.getD_cons_zero, List.getD_cons_succ, Nat.reduceAdd] at hw ⊢; omega), rfl⟩
    | exact ⟨sub a 2 1, wa.sub 2 1 (by decide), by first | omega | (clear wa; simp only [csD, CV.d, rowC, ofD, argG, List.zipIdx, List.map, wRow, wD, sub, List.range, List.range.loop, List.getD_cons_zero, List.getD_cons_succ, Nat.reduceAdd] at hw ⊢; done) | (clear wa; simp only [csD, CV.d, rowC, ofD, argG, List.zipIdx, List.map, wRow, wD, sub, List.range, List.range.loop, List.getD_cons_zero, List.getD_cons_succ, Nat.reduceAdd] at hw ⊢; omega), rfl⟩
    | exact ⟨sub a 3 1, wa.sub 3 1 (by decide), by first | omega | (clear wa; simp only [csD, CV.d, rowC, ofD, argG, List.zipIdx, List.map, wRow, wD, sub, List.range, List.range.loop, List.getD_cons_zero, List.getD_cons_succ, Nat.reduceAdd] at hw ⊢; done) | (clear wa; simp only [csD, CV.d, rowC, ofD, argG, List.zipIdx, List.map, wRow, wD, sub, List.range, List.range.loop, List.getD_cons_zero, List.getD_cons_succ, Nat.reduceAdd] at hw ⊢; omega), rfl⟩
    | exact ⟨sub a 4 1, wa.sub 4 1 (by decide), by first | omega | (clear wa; simp only [csD, CV.d, rowC, ofD, argG, List.zipIdx, List.map, wRow, wD, sub, List.range, List.range.loop, List.getD_cons_zero, List.getD_cons_succ, Nat.reduceAdd] at hw ⊢; done) | (clear wa; simp only [csD, CV.d, rowC, ofD, argG, List.zipIdx, List.map, wRow, wD, sub, List.range, List.range.loop, List.getD_cons_zero, List.getD_cons_succ, Nat.reduceAdd] at hw ⊢; omega), rfl⟩
    | exact ⟨sub a 5 1, wa.sub 5 1 (by decide), by first | omega | (clear wa; simp only [csD, CV.d, rowC, ofD, argG, List.zipIdx, List.map, wRow, wD, sub, List.range, List.range.loop, List.getD_cons_zero, List.getD_cons_succ, Nat.reduceAdd] at hw ⊢; done) | (clear wa; simp only [csD, CV.d, rowC, ofD, argG, List.zipIdx, List.map, wRow, wD, sub, List.range, List.range.loop, List.getD_cons_zero, List.getD_cons_succ, Nat.reduceAdd] at hw ⊢; omega), rfl⟩
    | exact ⟨sub a 6 1, wa.sub 6 1 (by decide), by first | omega | (clear wa; simp only [csD, CV.d, rowC, ofD, argG, List.zipIdx, List.map, wRow, wD, sub, List.range, List.range.loop, List.getD_cons_zero, List.getD_cons_succ, Nat.reduceAdd] at hw ⊢; done) | (clear wa; simp only [csD, CV.d, rowC, ofD, argG, List.zipIdx, List.map, wRow, wD, sub, List.range, List.range.loop, List.getD_cons_zero, List.getD_cons_succ, Nat.reduceAdd] at hw ⊢; omega), rfl⟩
    | rfl
/-- laws.toValueS -/
theorem step168 (n : Nat) (hn : FOk Tryz.prog T 137 (toGn T [.i .i64, .i .i64, .i .i64, .s, .l 144, .l 9, .l 234] [.i .i64, .i .i64, .i .i64, .s, .l 103, .l 9, .l 189] n)) : FOk Tryz.prog T 168 (toSn 144 103 (n + 1)) := by
  refine fok (env := envL [(137, (toGn T [.i .i64, .i .i64, .i .i64, .s, .l 144, .l 9, .l 234] [.i .i64, .i .i64, .i .i64, .s, .l 103, .l 9, .l 189] n))]) (N := 23) tabT (envL_cons hn envL_nil) mixed Tryz.func168 rfl Tryz.call168 Tryz.ntmps168 ?_
  rintro args ⟨a, hs, hw, rfl⟩ hwf
  have wa : WfD T (.l 144) (.l a) := arg0 hwf (List.mem_singleton_self _)
  clear hwf
  have la : a.length ≤ 1048576 := by omega
  refine ⟨by simp, ?_⟩
  rw [Tryz.results168]
  repeat' first
    | (refine And.intro ?_ ?_)
    | (intro h; cases h)
    | (intro h; rw [h])
    | (intro h)
  all_goals first
    | (show lowEdges _ = true; kernel_rfl) | (show logOk _ _ = true; kernel_rfl) | trivial | exact Or.inr rfl | exact Or.inl rfl
    | rfl
    | (simp only [Ty.bytes]; omega)
    | omega
    | skip
  refine awp_loop (Q := _) [0, 3, 4] [] (fun n s => ∃ i : Int, s = ([argS 144 a, .val false [.sl true 103 (fill a ([.i .i64, .i .i64, .i .i64, .s, .l 103, .l 9, .l 189].map zeroD) i.toNat)], .val false [.i .i64 i]], []) ∧ 0 ≤ i ∧ i ≤ a.length ∧ n = a.length - i.toNat) ?_ ?_
  · exact ⟨rfl, a.length - 0, 0, congrArg (fun z => (([argS 144 a, .val false [.sl true 103 z], .val false [.i .i64 0]], []) : Snap)) (fill_zero a _).symm, by omega, by omega, rfl⟩
  rintro n s ⟨i, rfl, h1, h2, h3⟩
  repeat' first
    | (refine And.intro ?_ ?_)
    | (intro h; cases h)
    | (intro h; rw [h])
    | (intro h)
  all_goals first
    | (show lowEdges _ = true; kernel_rfl) | (show logOk _ _ = true; kernel_rfl) | trivial | exact Or.inr rfl | exact Or.inl rfl
    | omega
    | exact of_decide_eq_true ‹_›
    | (have := of_decide_eq_true ‹decide (i < (a.length : Int)) = true›; rw [fill_length (by omega)]; omega)
    | exact congrArg (fun z => [CV.sl false 103 z]) (fill_all h1 h2 ‹_›)
    | (have hi : i < (a.length : Int) := of_decide_eq_true ‹_›
       have hk : i.toNat < a.length := by omega
       have wr : WfRow T [.i .i64, .i .i64, .i .i64, .s, .l 144, .l 9, .l 234] (a.getD i.toNat []) := wa.row rfl hk
       have hwr := wRow_le hk
       first
         | exact ⟨_, wr, by rw [wRow_rowC wr]; omega, rfl⟩
         | exact ⟨_, wr, Nat.lt_of_lt_of_le (size_row hk) (Nat.le_of_lt_succ hs), by rw [wRow_rowC wr]; omega, rfl⟩
         | (refine ⟨a.length - (i + 1).toNat, by omega, i + 1, ?_, by omega, by omega, rfl⟩
            have e1 := fill_next (z := ([.i .i64, .i .i64, .i .i64, .s, .l 103, .l 9, .l 189].map zeroD)) h1 hi (by rw [csD_rowC wr, wr.1]; rfl) (csD_rowC wr)
            have e2 : IntKind.i64.wrap (i + 1) = i + 1 := wrap_next h1 hi (Nat.le_trans la (by decide))
            exact (congrArg (fun z => (([argS 144 a, .val false [.sl true 103 z], .val false [.i .i64 (IntKind.i64.wrap (i + 1))]], []) : Snap)) e1).trans (congrArg (fun z => (([argS 144 a, .val false [.sl true 103 (fill a ([.i .i64, .i .i64, .i .i64, .s, .l 103, .l 9, .l 189].map zeroD) (i + 1).toNat)], .val false [.i .i64 z]], []) : Snap)) e2)))
theorem zero137 : FOk Tryz.prog T 137 (toGn T [.i .i64, .i .i64, .i .i64, .s, .l 144, .l 9, .l 234] [.i .i64, .i .i64, .i .i64, .s, .l 103, .l 9, .l 189] 0) := by
  refine fok (env := envL []) (N := 29) tabT envL_nil mixed Tryz.func137 rfl Tryz.call137 Tryz.ntmps137 ?_
  rintro args ⟨a, wa, hs, hw, rfl⟩ _
  exact absurd hs (Nat.not_lt_zero _)
theorem zero168 : FOk Tryz.prog T 168 (toSn 144 103 0) := by
  refine fok (env := envL []) (N := 23) tabT envL_nil mixed Tryz.func168 rfl Tryz.call168 Tryz.ntmps168 ?_
  rintro args ⟨a, hs, hw, rfl⟩ _
  exact absurd hs (Nat.not_lt_zero _)
theorem both137 (n : Nat) : FOk Tryz.prog T 137 (toGn T [.i .i64, .i .i64, .i .i64, .s, .l 144, .l 9, .l 234] [.i .i64, .i .i64, .i .i64, .s, .l 103, .l 9, .l 189] n) ∧ FOk Tryz.prog T 168 (toSn 144 103 n) := by
  induction n with
  | zero => exact ⟨zero137, zero168⟩
  | succ n ih => exact ⟨step137 n ih.2, step168 n ih.1⟩
theorem ok137 : FOk Tryz.prog T 137 (toG T [.i .i64, .i .i64, .i .i64, .s, .l 144, .l 9, .l 234] [.i .i64, .i .i64, .i .i64, .s, .l 103, .l 9, .l 189]) := FOk.lift (s := fun n => (toGn T [.i .i64, .i .i64, .i .i64, .s, .l 144, .l 9, .l 234] [.i .i64, .i .i64, .i .i64, .s, .l 103, .l 9, .l 189] n)) (fun n => (both137 n).1) (fun args ⟨a, wa, hw, h⟩ => ⟨SizeOf.sizeOf a + 1, a, wa, Nat.lt_succ_self _, hw, h⟩) (fun n => rfl)
theorem ok168 : FOk Tryz.prog T 168 (toS 144 103) := FOk.lift (s := fun n => (toSn 144 103 n)) (fun n => (both137 n).2) (fun args ⟨a, hw, h⟩ => ⟨SizeOf.sizeOf a + 1, a, Nat.lt_succ_self _, hw, h⟩) (fun n => rfl)
/-- laws.toRead -/
theorem ok167 : FOk Tryz.prog T 167 (toG T [.i .i64, .i .i64, .i .i64, .s, .i .i64, .i .i64, .i .i64, .s, .l 144, .l 9, .l 234] [.i .i64, .i .i64, .i .i64, .s, .i .i64, .i .i64, .i .i64, .s, .l 103, .l 9, .l 189]) := by
  refine fok (env := envL [(137, (toG T [.i .i64, .i .i64, .i .i64, .s, .l 144, .l 9, .l 234] [.i .i64, .i .i64, .i .i64, .s, .l 103, .l 9, .l 189]))]) (N := 21) tabT (envL_cons ok137 envL_nil) mixed Tryz.func167 rfl Tryz.call167 Tryz.ntmps167 ?_
  rintro args ⟨a, wa, hw, rfl⟩ hwf
  refine ⟨by simp, ?_⟩
  clear hwf
  rw [Tryz.results167]
  repeat' first
    | (refine And.intro ?_ ?_)
    | (intro h; cases h)
    | (intro h; rw [h])
    | (intro h)
  all_goals first
    | (show lowEdges _ = true; kernel_rfl) | (show logOk _ _ = true; kernel_rfl) | trivial | exact Or.inr rfl | exact Or.inl rfl
    | exact ⟨_, Nat.lt_of_lt_of_le (size_cell (by rw [wa.1]; decide)) (Nat.le_of_lt_succ hs), by first | omega | (clear wa; simp only [csD, CV.d, rowC, ofD, argG, List.zipIdx, List.map, wRow, wD, sub, List.range, List.range.loop, List.getD_cons_zero, List.getD_cons_succ, Nat.reduceAdd] at hw ⊢; done) | (clear wa; simp only [csD, CV.d, rowC, ofD, argG, List.zipIdx, List.map, wRow, wD, sub, List.range, List.range.loop, List.getD_cons_zero, List.getD_cons_succ, Nat.reduceAdd] at hw ⊢; omega), rfl⟩
    | exact ⟨_, by first | omega | (clear wa; simp only [csD, CV.d, rowC, ofD, argG, List.zipIdx, List.map, wRow, wD, sub, List.range, List.range.loop, List.getD_cons_zero, List.getD_cons_succ, Nat.reduceAdd] at hw ⊢; done) | (clear wa; simp only [csD, CV.d, rowC, ofD, argG, List.zipIdx, List.map, wRow, wD, sub, List.range, List.range.loop, List.getD_cons_zero, List.getD_cons_succ, Nat.reduceAdd] at hw ⊢; omega), rfl⟩
    | exact ⟨sub a 4 7, wa.sub 4 7 (by decide), by first | omega | (clear wa; simp only [csD, CV.d, rowC, ofD, argG, List.zipIdx, List.map, wRow, wD, sub, List.range, List.range.loop, List.getD_cons_zero, List.getD_cons_succ, Nat.reduceAdd] at hw ⊢; done) | (clear wa; simp only [csD, CV.d, rowC, ofD, argG, List.zipIdx, List.map, wRow, wD, sub, List.range, List.range.loop, List.getD_cons_zero, List.getD_cons_succ, Nat.reduceAdd] at hw ⊢; omega), rfl⟩
    | exact ⟨sub a 0 1, wa.sub 0 1 (by decide), by first | omega | (clear wa; simp only [csD, CV.d, rowC, ofD, argG, List.zipIdx, List.map, wRow, wD, sub, List.range, List.range.loop, List.getD_cons_zero, List.getD_cons_succ, Nat.reduceAdd] at hw ⊢; done) | (clear wa; simp only [csD, CV.d, rowC, ofD, argG, List.zipIdx, List.map, wRow, wD, sub, List.range, List.range.loop, List.getD_cons_zero, List.getD_cons_succ, Nat.reduceAdd] at hw ⊢; omega), rfl⟩
    | exact ⟨sub a 1 1, wa.sub 1 1 (by decide), by first | omega | (clear wa; simp only [csD, CV.d, rowC, ofD, argG, List.zipIdx, List.map, wRow, wD, sub, List.range, List.range.loop, List.getD_cons_zero, List.getD_cons_succ, Nat.reduceAdd] at hw ⊢; done) | (clear wa; simp only [csD, CV.d, rowC, ofD, argG, List.zipIdx, List.map, wRow, wD, sub, List.range, List.range.loop, List.getD_cons_zero, List.getD_cons_succ, Nat.reduceAdd] at hw ⊢; omega), rfl⟩
    | exact ⟨sub a 2 1, wa.sub 2 1 (by decide), by first | omega | (clear wa; simp only [csD, CV.d, rowC, ofD, argG, List.zipIdx, List.map, wRow, wD, sub, List.range, List.range.loop, List.getD_cons_zero, List.getD_cons_succ, Nat.reduceAdd] at hw ⊢; done) | (clear wa; simp only [csD, CV.d, rowC, ofD, argG, List.zipIdx, List.map, wRow, wD, sub, List.range, List.range.loop, List.getD_cons_zero, List.getD_cons_succ, Nat.reduceAdd] at hw ⊢; omega), rfl⟩
    | exact ⟨sub a 3 1, wa.sub 3 1 (by decide), by first | omega | (clear wa; simp only [csD, CV.d, rowC, ofD, argG, List.zipIdx, List.map, wRow, wD, sub, List.range, List.range.loop, List.getD_cons_zero, List.getD_cons_succ, Nat.reduceAdd] at hw ⊢; done) | (clear wa; simp only [csD, CV.d, rowC, ofD, argG, List.zipIdx, List.map, wRow, wD, sub, List.range, List.range.loop, List.getD_cons_zero, List.getD_cons_succ, Nat.reduceAdd] at hw ⊢; omega), rfl⟩
    | rfl
/-- laws.toReadS -/
theorem ok135 : FOk Tryz.prog T 135 (toS 210 185) := by
  refine fok (env := envL [(167, (toG T [.i .i64, .i .i64, .i .i64, .s, .i .i64, .i .i64, .i .i64, .s, .l 144, .l 9, .l 234] [.i .i64, .i .i64, .i .i64, .s, .i .i64, .i .i64, .i .i64, .s, .l 103, .l 9, .l 189]))]) (N := 23) tabT (envL_cons ok167 envL_nil) mixed Tryz.func135 rfl Tryz.call135 Tryz.ntmps135 ?_
  rintro args ⟨a, hw, rfl⟩ hwf
  have wa : WfD T (.l 210) (.l a) := arg0 hwf (List.mem_singleton_self _)
  clear hwf
  have la : a.length ≤ 1048576 := by omega
  refine ⟨by simp, ?_⟩
  rw [Tryz.results135]
  repeat' first
    | (refine And.intro ?_ ?_)
    | (intro h; cases h)
    | (intro h; rw [h])
    | (intro h)
  all_goals first
    | (show lowEdges _ = true; kernel_rfl) | (show logOk _ _ = true; kernel_rfl) | trivial | exact Or.inr rfl | exact Or.inl rfl
    | rfl
    | (simp only [Ty.bytes]; omega)
    | omega
    | skip
  refine awp_loop (Q := _) [0, 3, 4] [] (fun n s => ∃ i : Int, s = ([argS 210 a, .val false [.sl true 185 (fill a ([.i .i64, .i .i64, .i .i64, .s, .i .i64, .i .i64, .i .i64, .s, .l 103, .l 9, .l 189].map zeroD) i.toNat)], .val false [.i .i64 i]], []) ∧ 0 ≤ i ∧ i ≤ a.length ∧ n = a.length - i.toNat) ?_ ?_
  · exact ⟨rfl, a.length - 0, 0, congrArg (fun z => (([argS 210 a, .val false [.sl true 185 z], .val false [.i .i64 0]], []) : Snap)) (fill_zero a _).symm, by omega, by omega, rfl⟩
  rintro n s ⟨i, rfl, h1, h2, h3⟩
  repeat' first
    | (refine And.intro ?_ ?_)
    | (intro h; cases h)
    | (intro h; rw [h])
    | (intro h)
  all_goals first
    | (show lowEdges _ = true; kernel_rfl) | (show logOk _ _ = true; kernel_rfl) | trivial | exact Or.inr rfl | exact Or.inl rfl
    | omega
    | exact of_decide_eq_true ‹_›
    | (have := of_decide_eq_true ‹decide (i < (a.length : Int)) = true›; rw [fill_length (by omega)]; omega)
    | exact congrArg (fun z => [CV.sl false 185 z]) (fill_all h1 h2 ‹_›)
    | (have hi : i < (a.length : Int) := of_decide_eq_true ‹_›
       have hk : i.toNat < a.length := by omega
       have wr : WfRow T [.i .i64, .i .i64, .i .i64, .s, .i .i64, .i .i64, .i .i64, .s, .l 144, .l 9, .l 234] (a.getD i.toNat []) := wa.row rfl hk
       have hwr := wRow_le hk
       first
         | exact ⟨_, wr, by rw [wRow_rowC wr]; omega, rfl⟩
         | exact ⟨_, wr, Nat.lt_of_lt_of_le (size_row hk) (Nat.le_of_lt_succ hs), by rw [wRow_rowC wr]; omega, rfl⟩
         | (refine ⟨a.length - (i + 1).toNat, by omega, i + 1, ?_, by omega, by omega, rfl⟩
            have e1 := fill_next (z := ([.i .i64, .i .i64, .i .i64, .s, .i .i64, .i .i64, .i .i64, .s, .l 103, .l 9, .l 189].map zeroD)) h1 hi (by rw [csD_rowC wr, wr.1]; rfl) (csD_rowC wr)
            have e2 : IntKind.i64.wrap (i + 1) = i + 1 := wrap_next h1 hi (Nat.le_trans la (by decide))
            exact (congrArg (fun z => (([argS 210 a, .val false [.sl true 185 z], .val false [.i .i64 (IntKind.i64.wrap (i + 1))]], []) : Snap)) e1).trans (congrArg (fun z => (([argS 210 a, .val false [.sl true 185 (fill a ([.i .i64, .i .i64, .i .i64, .s, .i .i64, .i .i64, .i .i64, .s, .l 103, .l 9, .l 189].map zeroD) (i + 1).toNat)], .val false [.i .i64 z]], []) : Snap)) e2)))
/-- laws.toTape -/
theorem ok98 : FOk Tryz.prog T 98 (toG T [.i .i64, .i .i64, .l 210] [.i .i64, .i .i64, .l 185]) := by
  refine fok (env := envL [(135, (toS 210 185))]) (N := 15) tabT (envL_cons ok135 envL_nil) mixed Tryz.func98 rfl Tryz.call98 Tryz.ntmps98 ?_
  rintro args ⟨a, wa, hw, rfl⟩ hwf
  refine ⟨by simp, ?_⟩
  clear hwf
  rw [Tryz.results98]
  repeat' first
    | (refine And.intro ?_ ?_)
    | (intro h; cases h)
    | (intro h; rw [h])
    | (intro h)
  all_goals first
    | (show lowEdges _ = true; kernel_rfl) | (show logOk _ _ = true; kernel_rfl) | trivial | exact Or.inr rfl | exact Or.inl rfl
    | exact ⟨_, Nat.lt_of_lt_of_le (size_cell (by rw [wa.1]; decide)) (Nat.le_of_lt_succ hs), by first | omega | (clear wa; simp only [csD, CV.d, rowC, ofD, argG, List.zipIdx, List.map, wRow, wD, sub, List.range, List.range.loop, List.getD_cons_zero, List.getD_cons_succ, Nat.reduceAdd] at hw ⊢; done) | (clear wa; simp only [csD, CV.d, rowC, ofD, argG, List.zipIdx, List.map, wRow, wD, sub, List.range, List.range.loop, List.getD_cons_zero, List.getD_cons_succ, Nat.reduceAdd] at hw ⊢; omega), rfl⟩
    | exact ⟨_, by first | omega | (clear wa; simp only [csD, CV.d, rowC, ofD, argG, List.zipIdx, List.map, wRow, wD, sub, List.range, List.range.loop, List.getD_cons_zero, List.getD_cons_succ, Nat.reduceAdd] at hw ⊢; done) | (clear wa; simp only [csD, CV.d, rowC, ofD, argG, List.zipIdx, List.map, wRow, wD, sub, List.range, List.range.loop, List.getD_cons_zero, List.getD_cons_succ, Nat.reduceAdd] at hw ⊢; omega), rfl⟩
    | exact ⟨sub a 0 1, wa.sub 0 1 (by decide), by first | omega | (clear wa; simp only [csD, CV.d, rowC, ofD, argG, List.zipIdx, List.map, wRow, wD, sub, List.range, List.range.loop, List.getD_cons_zero, List.getD_cons_succ, Nat.reduceAdd] at hw ⊢; done) | (clear wa; simp only [csD, CV.d, rowC, ofD, argG, List.zipIdx, List.map, wRow, wD, sub, List.range, List.range.loop, List.getD_cons_zero, List.getD_cons_succ, Nat.reduceAdd] at hw ⊢; omega), rfl⟩
    | exact ⟨sub a 1 1, wa.sub 1 1 (by decide), by first | omega | (clear wa; simp only [csD, CV.d, rowC, ofD, argG, List.zipIdx, List.map, wRow, wD, sub, List.range, List.range.loop, List.getD_cons_zero, List.getD_cons_succ, Nat.reduceAdd] at hw ⊢; done) | (clear wa; simp only [csD, CV.d, rowC, ofD, argG, List.zipIdx, List.map, wRow, wD, sub, List.range, List.range.loop, List.getD_cons_zero, List.getD_cons_succ, Nat.reduceAdd] at hw ⊢; omega), rfl⟩
    | exact ⟨sub a 2 1, wa.sub 2 1 (by decide), by first | omega | (clear wa; simp only [csD, CV.d, rowC, ofD, argG, List.zipIdx, List.map, wRow, wD, sub, List.range, List.range.loop, List.getD_cons_zero, List.getD_cons_succ, Nat.reduceAdd] at hw ⊢; done) | (clear wa; simp only [csD, CV.d, rowC, ofD, argG, List.zipIdx, List.map, wRow, wD, sub, List.range, List.range.loop, List.getD_cons_zero, List.getD_cons_succ, Nat.reduceAdd] at hw ⊢; omega), rfl⟩
    | rfl
/-- laws.toTapeS -/
theorem ok57 : FOk Tryz.prog T 57 (toS 139 153) := by
  refine fok (env := envL [(98, (toG T [.i .i64, .i .i64, .l 210] [.i .i64, .i .i64, .l 185]))]) (N := 23) tabT (envL_cons ok98 envL_nil) mixed Tryz.func57 rfl Tryz.call57 Tryz.ntmps57 ?_
  rintro args ⟨a, hw, rfl⟩ hwf
  have wa : WfD T (.l 139) (.l a) := arg0 hwf (List.mem_singleton_self _)
  clear hwf
  have la : a.length ≤ 1048576 := by omega
  refine ⟨by simp, ?_⟩
  rw [Tryz.results57]
  repeat' first
    | (refine And.intro ?_ ?_)
    | (intro h; cases h)
    | (intro h; rw [h])
    | (intro h)
  all_goals first
    | (show lowEdges _ = true; kernel_rfl) | (show logOk _ _ = true; kernel_rfl) | trivial | exact Or.inr rfl | exact Or.inl rfl
    | rfl
    | (simp only [Ty.bytes]; omega)
    | omega
    | skip
  refine awp_loop (Q := _) [0, 3, 4] [] (fun n s => ∃ i : Int, s = ([argS 139 a, .val false [.sl true 153 (fill a ([.i .i64, .i .i64, .l 185].map zeroD) i.toNat)], .val false [.i .i64 i]], []) ∧ 0 ≤ i ∧ i ≤ a.length ∧ n = a.length - i.toNat) ?_ ?_
  · exact ⟨rfl, a.length - 0, 0, congrArg (fun z => (([argS 139 a, .val false [.sl true 153 z], .val false [.i .i64 0]], []) : Snap)) (fill_zero a _).symm, by omega, by omega, rfl⟩
  rintro n s ⟨i, rfl, h1, h2, h3⟩
  repeat' first
    | (refine And.intro ?_ ?_)
    | (intro h; cases h)
    | (intro h; rw [h])
    | (intro h)
  all_goals first
    | (show lowEdges _ = true; kernel_rfl) | (show logOk _ _ = true; kernel_rfl) | trivial | exact Or.inr rfl | exact Or.inl rfl
    | omega
    | exact of_decide_eq_true ‹_›
    | (have := of_decide_eq_true ‹decide (i < (a.length : Int)) = true›; rw [fill_length (by omega)]; omega)
    | exact congrArg (fun z => [CV.sl false 153 z]) (fill_all h1 h2 ‹_›)
    | (have hi : i < (a.length : Int) := of_decide_eq_true ‹_›
       have hk : i.toNat < a.length := by omega
       have wr : WfRow T [.i .i64, .i .i64, .l 210] (a.getD i.toNat []) := wa.row rfl hk
       have hwr := wRow_le hk
       first
         | exact ⟨_, wr, by rw [wRow_rowC wr]; omega, rfl⟩
         | exact ⟨_, wr, Nat.lt_of_lt_of_le (size_row hk) (Nat.le_of_lt_succ hs), by rw [wRow_rowC wr]; omega, rfl⟩
         | (refine ⟨a.length - (i + 1).toNat, by omega, i + 1, ?_, by omega, by omega, rfl⟩
            have e1 := fill_next (z := ([.i .i64, .i .i64, .l 185].map zeroD)) h1 hi (by rw [csD_rowC wr, wr.1]; rfl) (csD_rowC wr)
            have e2 : IntKind.i64.wrap (i + 1) = i + 1 := wrap_next h1 hi (Nat.le_trans la (by decide))
            exact (congrArg (fun z => (([argS 139 a, .val false [.sl true 153 z], .val false [.i .i64 (IntKind.i64.wrap (i + 1))]], []) : Snap)) e1).trans (congrArg (fun z => (([argS 139 a, .val false [.sl true 153 (fill a ([.i .i64, .i .i64, .l 185].map zeroD) (i + 1).toNat)], .val false [.i .i64 z]], []) : Snap)) e2)))
/-- laws.toEntry -/
theorem ok99 : FOk Tryz.prog T 99 (toG T [.i .i64, .i .i64, .i .i64, .l 3, .i .i64, .i .i64, .i .i64, .s, .l 144, .l 9, .l 234, .b] [.i .i64, .i .i64, .i .i64, .l 3, .i .i64, .i .i64, .i .i64, .s, .l 103, .l 9, .l 189, .b]) := by
  refine fok (env := envL [(136, (toS 3 3)), (137, (toG T [.i .i64, .i .i64, .i .i64, .s, .l 144, .l 9, .l 234] [.i .i64, .i .i64, .i .i64, .s, .l 103, .l 9, .l 189]))]) (N := 25) tabT (envL_cons ok136 (envL_cons ok137 envL_nil)) mixed Tryz.func99 rfl Tryz.call99 Tryz.ntmps99 ?_
  rintro args ⟨a, wa, hw, rfl⟩ hwf
  refine ⟨by simp, ?_⟩
  clear hwf
  rw [Tryz.results99]
  repeat' first
    | (refine And.intro ?_ ?_)
    | (intro h; cases h)
    | (intro h; rw [h])
    | (intro h)
  all_goals first
    | (show lowEdges _ = true; kernel_rfl) | (show logOk _ _ = true; kernel_rfl) | trivial | exact Or.inr rfl | exact Or.inl rfl
    | exact ⟨_, Nat.lt_of_lt_of_le (size_cell (by rw [wa.1]; decide)) (Nat.le_of_lt_succ hs), by first | omega | (clear wa; simp only [csD, CV.d, rowC, ofD, argG, List.zipIdx, List.map, wRow, wD, sub, List.range, List.range.loop, List.getD_cons_zero, List.getD_cons_succ, Nat.reduceAdd] at hw ⊢; done) | (clear wa; simp only [csD, CV.d, rowC, ofD, argG, List.zipIdx, List.map, wRow, wD, sub, List.range, List.range.loop, List.getD_cons_zero, List.getD_cons_succ, Nat.reduceAdd] at hw ⊢; omega), rfl⟩
    | exact ⟨_, by first | omega | (clear wa; simp only [csD, CV.d, rowC, ofD, argG, List.zipIdx, List.map, wRow, wD, sub, List.range, List.range.loop, List.getD_cons_zero, List.getD_cons_succ, Nat.reduceAdd] at hw ⊢; done) | (clear wa; simp only [csD, CV.d, rowC, ofD, argG, List.zipIdx, List.map, wRow, wD, sub, List.range, List.range.loop, List.getD_cons_zero, List.getD_cons_succ, Nat.reduceAdd] at hw ⊢; omega), rfl⟩
    | exact ⟨sub a 4 7, wa.sub 4 7 (by decide), by first | omega | (clear wa; simp only [csD, CV.d, rowC, ofD, argG, List.zipIdx, List.map, wRow, wD, sub, List.range, List.range.loop, List.getD_cons_zero, List.getD_cons_succ, Nat.reduceAdd] at hw ⊢; done) | (clear wa; simp only [csD, CV.d, rowC, ofD, argG, List.zipIdx, List.map, wRow, wD, sub, List.range, List.range.loop, List.getD_cons_zero, List.getD_cons_succ, Nat.reduceAdd] at hw ⊢; omega), rfl⟩
    | exact ⟨sub a 0 1, wa.sub 0 1 (by decide), by first | omega | (clear wa; simp only [csD, CV.d, rowC, ofD, argG, List.zipIdx, List.map, wRow, wD, sub, List.range, List.range.loop, List.getD_cons_zero, List.getD_cons_succ, Nat.reduceAdd] at hw ⊢; done) | (clear wa; simp only [csD, CV.d, rowC, ofD, argG, List.zipIdx, List.map, wRow, wD, sub, List.range, List.range.loop, List.getD_cons_zero, List.getD_cons_succ, Nat.reduceAdd] at hw ⊢; omega), rfl⟩
    | exact ⟨sub a 1 1, wa.sub 1 1 (by decide), by first | omega | (clear wa; simp only [csD, CV.d, rowC, ofD, argG, List.zipIdx, List.map, wRow, wD, sub, List.range, List.range.loop, List.getD_cons_zero, List.getD_cons_succ, Nat.reduceAdd] at hw ⊢; done) | (clear wa; simp only [csD, CV.d, rowC, ofD, argG, List.zipIdx, List.map, wRow, wD, sub, List.range, List.range.loop, List.getD_cons_zero, List.getD_cons_succ, Nat.reduceAdd] at hw ⊢; omega), rfl⟩
    | exact ⟨sub a 2 1, wa.sub 2 1 (by decide), by first | omega | (clear wa; simp only [csD, CV.d, rowC, ofD, argG, List.zipIdx, List.map, wRow, wD, sub, List.range, List.range.loop, List.getD_cons_zero, List.getD_cons_succ, Nat.reduceAdd] at hw ⊢; done) | (clear wa; simp only [csD, CV.d, rowC, ofD, argG, List.zipIdx, List.map, wRow, wD, sub, List.range, List.range.loop, List.getD_cons_zero, List.getD_cons_succ, Nat.reduceAdd] at hw ⊢; omega), rfl⟩
    | exact ⟨sub a 3 1, wa.sub 3 1 (by decide), by first | omega | (clear wa; simp only [csD, CV.d, rowC, ofD, argG, List.zipIdx, List.map, wRow, wD, sub, List.range, List.range.loop, List.getD_cons_zero, List.getD_cons_succ, Nat.reduceAdd] at hw ⊢; done) | (clear wa; simp only [csD, CV.d, rowC, ofD, argG, List.zipIdx, List.map, wRow, wD, sub, List.range, List.range.loop, List.getD_cons_zero, List.getD_cons_succ, Nat.reduceAdd] at hw ⊢; omega), rfl⟩
    | exact ⟨sub a 11 1, wa.sub 11 1 (by decide), by first | omega | (clear wa; simp only [csD, CV.d, rowC, ofD, argG, List.zipIdx, List.map, wRow, wD, sub, List.range, List.range.loop, List.getD_cons_zero, List.getD_cons_succ, Nat.reduceAdd] at hw ⊢; done) | (clear wa; simp only [csD, CV.d, rowC, ofD, argG, List.zipIdx, List.map, wRow, wD, sub, List.range, List.range.loop, List.getD_cons_zero, List.getD_cons_succ, Nat.reduceAdd] at hw ⊢; omega), rfl⟩
    | rfl
/-- laws.toEntryS -/
theorem ok58 : FOk Tryz.prog T 58 (toS 146 105) := by
  refine fok (env := envL [(99, (toG T [.i .i64, .i .i64, .i .i64, .l 3, .i .i64, .i .i64, .i .i64, .s, .l 144, .l 9, .l 234, .b] [.i .i64, .i .i64, .i .i64, .l 3, .i .i64, .i .i64, .i .i64, .s, .l 103, .l 9, .l 189, .b]))]) (N := 23) tabT (envL_cons ok99 envL_nil) mixed Tryz.func58 rfl Tryz.call58 Tryz.ntmps58 ?_
  rintro args ⟨a, hw, rfl⟩ hwf
  have wa : WfD T (.l 146) (.l a) := arg0 hwf (List.mem_singleton_self _)
  clear hwf
  have la : a.length ≤ 1048576 := by omega
  refine ⟨by simp, ?_⟩
  rw [Tryz.results58]
  repeat' first
    | (refine And.intro ?_ ?_)
    | (intro h; cases h)
    | (intro h; rw [h])
    | (intro h)
  all_goals first
    | (show lowEdges _ = true; kernel_rfl) | (show logOk _ _ = true; kernel_rfl) | trivial | exact Or.inr rfl | exact Or.inl rfl
    | rfl
    | (simp only [Ty.bytes]; omega)
    | omega
    | skip
  refine awp_loop (Q := _) [0, 3, 4] [] (fun n s => ∃ i : Int, s = ([argS 146 a, .val false [.sl true 105 (fill a ([.i .i64, .i .i64, .i .i64, .l 3, .i .i64, .i .i64, .i .i64, .s, .l 103, .l 9, .l 189, .b].map zeroD) i.toNat)], .val false [.i .i64 i]], []) ∧ 0 ≤ i ∧ i ≤ a.length ∧ n = a.length - i.toNat) ?_ ?_
  · exact ⟨rfl, a.length - 0, 0, congrArg (fun z => (([argS 146 a, .val false [.sl true 105 z], .val false [.i .i64 0]], []) : Snap)) (fill_zero a _).symm, by omega, by omega, rfl⟩
  rintro n s ⟨i, rfl, h1, h2, h3⟩
  repeat' first
    | (refine And.intro ?_ ?_)
    | (intro h; cases h)
    | (intro h; rw [h])
    | (intro h)
  all_goals first
    | (show lowEdges _ = true; kernel_rfl) | (show logOk _ _ = true; kernel_rfl) | trivial | exact Or.inr rfl | exact Or.inl rfl
    | omega
    | exact of_decide_eq_true ‹_›
    | (have := of_decide_eq_true ‹decide (i < (a.length : Int)) = true›; rw [fill_length (by omega)]; omega)
    | exact congrArg (fun z => [CV.sl false 105 z]) (fill_all h1 h2 ‹_›)
    | (have hi : i < (a.length : Int) := of_decide_eq_true ‹_›
       have hk : i.toNat < a.length := by omega
       have wr : WfRow T [.i .i64, .i .i64, .i .i64, .l 3, .i .i64, .i .i64, .i .i64, .s, .l 144, .l 9, .l 234, .b] (a.getD i.toNat []) := wa.row rfl hk
       have hwr := wRow_le hk
       first
         | exact ⟨_, wr, by rw [wRow_rowC wr]; omega, rfl⟩
         | exact ⟨_, wr, Nat.lt_of_lt_of_le (size_row hk) (Nat.le_of_lt_succ hs), by rw [wRow_rowC wr]; omega, rfl⟩
         | (refine ⟨a.length - (i + 1).toNat, by omega, i + 1, ?_, by omega, by omega, rfl⟩
            have e1 := fill_next (z := ([.i .i64, .i .i64, .i .i64, .l 3, .i .i64, .i .i64, .i .i64, .s, .l 103, .l 9, .l 189, .b].map zeroD)) h1 hi (by rw [csD_rowC wr, wr.1]; rfl) (csD_rowC wr)
            have e2 : IntKind.i64.wrap (i + 1) = i + 1 := wrap_next h1 hi (Nat.le_trans la (by decide))
            exact (congrArg (fun z => (([argS 146 a, .val false [.sl true 105 z], .val false [.i .i64 (IntKind.i64.wrap (i + 1))]], []) : Snap)) e1).trans (congrArg (fun z => (([argS 146 a, .val false [.sl true 105 (fill a ([.i .i64, .i .i64, .i .i64, .l 3, .i .i64, .i .i64, .i .i64, .s, .l 103, .l 9, .l 189, .b].map zeroD) (i + 1).toNat)], .val false [.i .i64 z]], []) : Snap)) e2)))
/-- laws.toEngine -/
theorem ok23 : FOk Tryz.prog T 23 (toG T [.l 176, .i .i64, .i .i64, .l 178, .l 139, .l 146, .i .i64, .i .i64, .i .i64] [.l 90, .i .i64, .i .i64, .l 116, .l 153, .l 105, .i .i64, .i .i64, .i .i64]) := by
  refine fok (env := envL [(55, (toG T [.l 176] [.l 90])), (56, (toG T [.i .i64, .i .i64, .l 178] [.i .i64, .i .i64, .l 116])), (57, (toS 139 153)), (58, (toS 146 105))]) (N := 30) tabT (envL_cons ok55 (envL_cons ok56 (envL_cons ok57 (envL_cons ok58 envL_nil)))) mixed Tryz.func23 rfl Tryz.call23 Tryz.ntmps23 ?_
  rintro args ⟨a, wa, hw, rfl⟩ hwf
  refine ⟨by simp, ?_⟩
  clear hwf
  rw [Tryz.results23]
  repeat' first
    | (refine And.intro ?_ ?_)
    | (intro h; cases h)
    | (intro h; rw [h])
    | (intro h)
  all_goals first
    | (show lowEdges _ = true; kernel_rfl) | (show logOk _ _ = true; kernel_rfl) | trivial | exact Or.inr rfl | exact Or.inl rfl
    | exact ⟨_, Nat.lt_of_lt_of_le (size_cell (by rw [wa.1]; decide)) (Nat.le_of_lt_succ hs), by first | omega | (clear wa; simp only [csD, CV.d, rowC, ofD, argG, List.zipIdx, List.map, wRow, wD, sub, List.range, List.range.loop, List.getD_cons_zero, List.getD_cons_succ, Nat.reduceAdd] at hw ⊢; done) | (clear wa; simp only [csD, CV.d, rowC, ofD, argG, List.zipIdx, List.map, wRow, wD, sub, List.range, List.range.loop, List.getD_cons_zero, List.getD_cons_succ, Nat.reduceAdd] at hw ⊢; omega), rfl⟩
    | exact ⟨_, by first | omega | (clear wa; simp only [csD, CV.d, rowC, ofD, argG, List.zipIdx, List.map, wRow, wD, sub, List.range, List.range.loop, List.getD_cons_zero, List.getD_cons_succ, Nat.reduceAdd] at hw ⊢; done) | (clear wa; simp only [csD, CV.d, rowC, ofD, argG, List.zipIdx, List.map, wRow, wD, sub, List.range, List.range.loop, List.getD_cons_zero, List.getD_cons_succ, Nat.reduceAdd] at hw ⊢; omega), rfl⟩
    | exact ⟨sub a 1 3, wa.sub 1 3 (by decide), by first | omega | (clear wa; simp only [csD, CV.d, rowC, ofD, argG, List.zipIdx, List.map, wRow, wD, sub, List.range, List.range.loop, List.getD_cons_zero, List.getD_cons_succ, Nat.reduceAdd] at hw ⊢; done) | (clear wa; simp only [csD, CV.d, rowC, ofD, argG, List.zipIdx, List.map, wRow, wD, sub, List.range, List.range.loop, List.getD_cons_zero, List.getD_cons_succ, Nat.reduceAdd] at hw ⊢; omega), rfl⟩
    | exact ⟨sub a 0 1, wa.sub 0 1 (by decide), by first | omega | (clear wa; simp only [csD, CV.d, rowC, ofD, argG, List.zipIdx, List.map, wRow, wD, sub, List.range, List.range.loop, List.getD_cons_zero, List.getD_cons_succ, Nat.reduceAdd] at hw ⊢; done) | (clear wa; simp only [csD, CV.d, rowC, ofD, argG, List.zipIdx, List.map, wRow, wD, sub, List.range, List.range.loop, List.getD_cons_zero, List.getD_cons_succ, Nat.reduceAdd] at hw ⊢; omega), rfl⟩
    | exact ⟨sub a 4 1, wa.sub 4 1 (by decide), by first | omega | (clear wa; simp only [csD, CV.d, rowC, ofD, argG, List.zipIdx, List.map, wRow, wD, sub, List.range, List.range.loop, List.getD_cons_zero, List.getD_cons_succ, Nat.reduceAdd] at hw ⊢; done) | (clear wa; simp only [csD, CV.d, rowC, ofD, argG, List.zipIdx, List.map, wRow, wD, sub, List.range, List.range.loop, List.getD_cons_zero, List.getD_cons_succ, Nat.reduceAdd] at hw ⊢; omega), rfl⟩
    | exact ⟨sub a 5 1, wa.sub 5 1 (by decide), by first | omega | (clear wa; simp only [csD, CV.d, rowC, ofD, argG, List.zipIdx, List.map, wRow, wD, sub, List.range, List.range.loop, List.getD_cons_zero, List.getD_cons_succ, Nat.reduceAdd] at hw ⊢; done) | (clear wa; simp only [csD, CV.d, rowC, ofD, argG, List.zipIdx, List.map, wRow, wD, sub, List.range, List.range.loop, List.getD_cons_zero, List.getD_cons_succ, Nat.reduceAdd] at hw ⊢; omega), rfl⟩
    | exact ⟨sub a 6 1, wa.sub 6 1 (by decide), by first | omega | (clear wa; simp only [csD, CV.d, rowC, ofD, argG, List.zipIdx, List.map, wRow, wD, sub, List.range, List.range.loop, List.getD_cons_zero, List.getD_cons_succ, Nat.reduceAdd] at hw ⊢; done) | (clear wa; simp only [csD, CV.d, rowC, ofD, argG, List.zipIdx, List.map, wRow, wD, sub, List.range, List.range.loop, List.getD_cons_zero, List.getD_cons_succ, Nat.reduceAdd] at hw ⊢; omega), rfl⟩
    | exact ⟨sub a 7 1, wa.sub 7 1 (by decide), by first | omega | (clear wa; simp only [csD, CV.d, rowC, ofD, argG, List.zipIdx, List.map, wRow, wD, sub, List.range, List.range.loop, List.getD_cons_zero, List.getD_cons_succ, Nat.reduceAdd] at hw ⊢; done) | (clear wa; simp only [csD, CV.d, rowC, ofD, argG, List.zipIdx, List.map, wRow, wD, sub, List.range, List.range.loop, List.getD_cons_zero, List.getD_cons_succ, Nat.reduceAdd] at hw ⊢; omega), rfl⟩
    | exact ⟨sub a 8 1, wa.sub 8 1 (by decide), by first | omega | (clear wa; simp only [csD, CV.d, rowC, ofD, argG, List.zipIdx, List.map, wRow, wD, sub, List.range, List.range.loop, List.getD_cons_zero, List.getD_cons_succ, Nat.reduceAdd] at hw ⊢; done) | (clear wa; simp only [csD, CV.d, rowC, ofD, argG, List.zipIdx, List.map, wRow, wD, sub, List.range, List.range.loop, List.getD_cons_zero, List.getD_cons_succ, Nat.reduceAdd] at hw ⊢; omega), rfl⟩
    | rfl
/-- laws.toEdit -/
theorem ok171 : FOk Tryz.prog T 171 (toG T [.i .i64, .i .i64, .i .i64, .i .i64, .i .i64, .s, .s, .i .i64] [.i .i64, .i .i64, .i .i64, .i .i64, .i .i64, .s, .s, .i .i64]) := by
  refine fok (env := envL [(133, (toG T [.i .i64, .i .i64, .i .i64, .s, .s, .i .i64] [.i .i64, .i .i64, .i .i64, .s, .s, .i .i64]))]) (N := 15) tabT (envL_cons ok133 envL_nil) mixed Tryz.func171 rfl Tryz.call171 Tryz.ntmps171 ?_
  rintro args ⟨a, wa, hw, rfl⟩ hwf
  refine ⟨by simp, ?_⟩
  clear hwf
  rw [Tryz.results171]
  repeat' first
    | (refine And.intro ?_ ?_)
    | (intro h; cases h)
    | (intro h; rw [h])
    | (intro h)
  all_goals first
    | (show lowEdges _ = true; kernel_rfl) | (show logOk _ _ = true; kernel_rfl) | trivial | exact Or.inr rfl | exact Or.inl rfl
    | exact ⟨_, Nat.lt_of_lt_of_le (size_cell (by rw [wa.1]; decide)) (Nat.le_of_lt_succ hs), by first | omega | (clear wa; simp only [csD, CV.d, rowC, ofD, argG, List.zipIdx, List.map, wRow, wD, sub, List.range, List.range.loop, List.getD_cons_zero, List.getD_cons_succ, Nat.reduceAdd] at hw ⊢; done) | (clear wa; simp only [csD, CV.d, rowC, ofD, argG, List.zipIdx, List.map, wRow, wD, sub, List.range, List.range.loop, List.getD_cons_zero, List.getD_cons_succ, Nat.reduceAdd] at hw ⊢; omega), rfl⟩
    | exact ⟨_, by first | omega | (clear wa; simp only [csD, CV.d, rowC, ofD, argG, List.zipIdx, List.map, wRow, wD, sub, List.range, List.range.loop, List.getD_cons_zero, List.getD_cons_succ, Nat.reduceAdd] at hw ⊢; done) | (clear wa; simp only [csD, CV.d, rowC, ofD, argG, List.zipIdx, List.map, wRow, wD, sub, List.range, List.range.loop, List.getD_cons_zero, List.getD_cons_succ, Nat.reduceAdd] at hw ⊢; omega), rfl⟩
    | exact ⟨sub a 2 6, wa.sub 2 6 (by decide), by first | omega | (clear wa; simp only [csD, CV.d, rowC, ofD, argG, List.zipIdx, List.map, wRow, wD, sub, List.range, List.range.loop, List.getD_cons_zero, List.getD_cons_succ, Nat.reduceAdd] at hw ⊢; done) | (clear wa; simp only [csD, CV.d, rowC, ofD, argG, List.zipIdx, List.map, wRow, wD, sub, List.range, List.range.loop, List.getD_cons_zero, List.getD_cons_succ, Nat.reduceAdd] at hw ⊢; omega), rfl⟩
    | exact ⟨sub a 0 1, wa.sub 0 1 (by decide), by first | omega | (clear wa; simp only [csD, CV.d, rowC, ofD, argG, List.zipIdx, List.map, wRow, wD, sub, List.range, List.range.loop, List.getD_cons_zero, List.getD_cons_succ, Nat.reduceAdd] at hw ⊢; done) | (clear wa; simp only [csD, CV.d, rowC, ofD, argG, List.zipIdx, List.map, wRow, wD, sub, List.range, List.range.loop, List.getD_cons_zero, List.getD_cons_succ, Nat.reduceAdd] at hw ⊢; omega), rfl⟩
    | exact ⟨sub a 1 1, wa.sub 1 1 (by decide), by first | omega | (clear wa; simp only [csD, CV.d, rowC, ofD, argG, List.zipIdx, List.map, wRow, wD, sub, List.range, List.range.loop, List.getD_cons_zero, List.getD_cons_succ, Nat.reduceAdd] at hw ⊢; done) | (clear wa; simp only [csD, CV.d, rowC, ofD, argG, List.zipIdx, List.map, wRow, wD, sub, List.range, List.range.loop, List.getD_cons_zero, List.getD_cons_succ, Nat.reduceAdd] at hw ⊢; omega), rfl⟩
    | rfl
/-- laws.toEditS -/
theorem ok138 : FOk Tryz.prog T 138 (toS 216 118) := by
  refine fok (env := envL [(171, (toG T [.i .i64, .i .i64, .i .i64, .i .i64, .i .i64, .s, .s, .i .i64] [.i .i64, .i .i64, .i .i64, .i .i64, .i .i64, .s, .s, .i .i64]))]) (N := 23) tabT (envL_cons ok171 envL_nil) mixed Tryz.func138 rfl Tryz.call138 Tryz.ntmps138 ?_
  rintro args ⟨a, hw, rfl⟩ hwf
  have wa : WfD T (.l 216) (.l a) := arg0 hwf (List.mem_singleton_self _)
  clear hwf
  have la : a.length ≤ 1048576 := by omega
  refine ⟨by simp, ?_⟩
  rw [Tryz.results138]
  repeat' first
    | (refine And.intro ?_ ?_)
    | (intro h; cases h)
    | (intro h; rw [h])
    | (intro h)
  all_goals first
    | (show lowEdges _ = true; kernel_rfl) | (show logOk _ _ = true; kernel_rfl) | trivial | exact Or.inr rfl | exact Or.inl rfl
    | rfl
    | (simp only [Ty.bytes]; omega)
    | omega
    | skip
  refine awp_loop (Q := _) [0, 3, 4] [] (fun n s => ∃ i : Int, s = ([argS 216 a, .val false [.sl true 118 (fill a ([.i .i64, .i .i64, .i .i64, .i .i64, .i .i64, .s, .s, .i .i64].map zeroD) i.toNat)], .val false [.i .i64 i]], []) ∧ 0 ≤ i ∧ i ≤ a.length ∧ n = a.length - i.toNat) ?_ ?_
  · exact ⟨rfl, a.length - 0, 0, congrArg (fun z => (([argS 216 a, .val false [.sl true 118 z], .val false [.i .i64 0]], []) : Snap)) (fill_zero a _).symm, by omega, by omega, rfl⟩
  rintro n s ⟨i, rfl, h1, h2, h3⟩
  repeat' first
    | (refine And.intro ?_ ?_)
    | (intro h; cases h)
    | (intro h; rw [h])
    | (intro h)
  all_goals first
    | (show lowEdges _ = true; kernel_rfl) | (show logOk _ _ = true; kernel_rfl) | trivial | exact Or.inr rfl | exact Or.inl rfl
    | omega
    | exact of_decide_eq_true ‹_›
    | (have := of_decide_eq_true ‹decide (i < (a.length : Int)) = true›; rw [fill_length (by omega)]; omega)
    | exact congrArg (fun z => [CV.sl false 118 z]) (fill_all h1 h2 ‹_›)
    | (have hi : i < (a.length : Int) := of_decide_eq_true ‹_›
       have hk : i.toNat < a.length := by omega
       have wr : WfRow T [.i .i64, .i .i64, .i .i64, .i .i64, .i .i64, .s, .s, .i .i64] (a.getD i.toNat []) := wa.row rfl hk
       have hwr := wRow_le hk
       first
         | exact ⟨_, wr, by rw [wRow_rowC wr]; omega, rfl⟩
         | exact ⟨_, wr, Nat.lt_of_lt_of_le (size_row hk) (Nat.le_of_lt_succ hs), by rw [wRow_rowC wr]; omega, rfl⟩
         | (refine ⟨a.length - (i + 1).toNat, by omega, i + 1, ?_, by omega, by omega, rfl⟩
            have e1 := fill_next (z := ([.i .i64, .i .i64, .i .i64, .i .i64, .i .i64, .s, .s, .i .i64].map zeroD)) h1 hi (by rw [csD_rowC wr, wr.1]; rfl) (csD_rowC wr)
            have e2 : IntKind.i64.wrap (i + 1) = i + 1 := wrap_next h1 hi (Nat.le_trans la (by decide))
            exact (congrArg (fun z => (([argS 216 a, .val false [.sl true 118 z], .val false [.i .i64 (IntKind.i64.wrap (i + 1))]], []) : Snap)) e1).trans (congrArg (fun z => (([argS 216 a, .val false [.sl true 118 (fill a ([.i .i64, .i .i64, .i .i64, .i .i64, .i .i64, .s, .s, .i .i64].map zeroD) (i + 1).toNat)], .val false [.i .i64 z]], []) : Snap)) e2)))
/-- laws.toNode -/
theorem ok100 : FOk Tryz.prog T 100 (toG T [.i .i64, .l 216, .l 216] [.i .i64, .l 118, .l 118]) := by
  refine fok (env := envL [(138, (toS 216 118))]) (N := 16) tabT (envL_cons ok138 envL_nil) mixed Tryz.func100 rfl Tryz.call100 Tryz.ntmps100 ?_
  rintro args ⟨a, wa, hw, rfl⟩ hwf
  refine ⟨by simp, ?_⟩
  clear hwf
  rw [Tryz.results100]
  repeat' first
    | (refine And.intro ?_ ?_)
    | (intro h; cases h)
    | (intro h; rw [h])
    | (intro h)
  all_goals first
    | (show lowEdges _ = true; kernel_rfl) | (show logOk _ _ = true; kernel_rfl) | trivial | exact Or.inr rfl | exact Or.inl rfl
    | exact ⟨_, Nat.lt_of_lt_of_le (size_cell (by rw [wa.1]; decide)) (Nat.le_of_lt_succ hs), by first | omega | (clear wa; simp only [csD, CV.d, rowC, ofD, argG, List.zipIdx, List.map, wRow, wD, sub, List.range, List.range.loop, List.getD_cons_zero, List.getD_cons_succ, Nat.reduceAdd] at hw ⊢; done) | (clear wa; simp only [csD, CV.d, rowC, ofD, argG, List.zipIdx, List.map, wRow, wD, sub, List.range, List.range.loop, List.getD_cons_zero, List.getD_cons_succ, Nat.reduceAdd] at hw ⊢; omega), rfl⟩
    | exact ⟨_, by first | omega | (clear wa; simp only [csD, CV.d, rowC, ofD, argG, List.zipIdx, List.map, wRow, wD, sub, List.range, List.range.loop, List.getD_cons_zero, List.getD_cons_succ, Nat.reduceAdd] at hw ⊢; done) | (clear wa; simp only [csD, CV.d, rowC, ofD, argG, List.zipIdx, List.map, wRow, wD, sub, List.range, List.range.loop, List.getD_cons_zero, List.getD_cons_succ, Nat.reduceAdd] at hw ⊢; omega), rfl⟩
    | exact ⟨sub a 0 1, wa.sub 0 1 (by decide), by first | omega | (clear wa; simp only [csD, CV.d, rowC, ofD, argG, List.zipIdx, List.map, wRow, wD, sub, List.range, List.range.loop, List.getD_cons_zero, List.getD_cons_succ, Nat.reduceAdd] at hw ⊢; done) | (clear wa; simp only [csD, CV.d, rowC, ofD, argG, List.zipIdx, List.map, wRow, wD, sub, List.range, List.range.loop, List.getD_cons_zero, List.getD_cons_succ, Nat.reduceAdd] at hw ⊢; omega), rfl⟩
    | exact ⟨sub a 1 1, wa.sub 1 1 (by decide), by first | omega | (clear wa; simp only [csD, CV.d, rowC, ofD, argG, List.zipIdx, List.map, wRow, wD, sub, List.range, List.range.loop, List.getD_cons_zero, List.getD_cons_succ, Nat.reduceAdd] at hw ⊢; done) | (clear wa; simp only [csD, CV.d, rowC, ofD, argG, List.zipIdx, List.map, wRow, wD, sub, List.range, List.range.loop, List.getD_cons_zero, List.getD_cons_succ, Nat.reduceAdd] at hw ⊢; omega), rfl⟩
    | exact ⟨sub a 2 1, wa.sub 2 1 (by decide), by first | omega | (clear wa; simp only [csD, CV.d, rowC, ofD, argG, List.zipIdx, List.map, wRow, wD, sub, List.range, List.range.loop, List.getD_cons_zero, List.getD_cons_succ, Nat.reduceAdd] at hw ⊢; done) | (clear wa; simp only [csD, CV.d, rowC, ofD, argG, List.zipIdx, List.map, wRow, wD, sub, List.range, List.range.loop, List.getD_cons_zero, List.getD_cons_succ, Nat.reduceAdd] at hw ⊢; omega), rfl⟩
    | rfl
/-- laws.toNodeS -/
theorem ok59 : FOk Tryz.prog T 59 (toS 150 83) := by
  refine fok (env := envL [(100, (toG T [.i .i64, .l 216, .l 216] [.i .i64, .l 118, .l 118]))]) (N := 23) tabT (envL_cons ok100 envL_nil) mixed Tryz.func59 rfl Tryz.call59 Tryz.ntmps59 ?_
  rintro args ⟨a, hw, rfl⟩ hwf
  have wa : WfD T (.l 150) (.l a) := arg0 hwf (List.mem_singleton_self _)
  clear hwf
  have la : a.length ≤ 1048576 := by omega
  refine ⟨by simp, ?_⟩
  rw [Tryz.results59]
  repeat' first
    | (refine And.intro ?_ ?_)
    | (intro h; cases h)
    | (intro h; rw [h])
    | (intro h)
  all_goals first
    | (show lowEdges _ = true; kernel_rfl) | (show logOk _ _ = true; kernel_rfl) | trivial | exact Or.inr rfl | exact Or.inl rfl
    | rfl
    | (simp only [Ty.bytes]; omega)
    | omega
    | skip
  refine awp_loop (Q := _) [0, 3, 4] [] (fun n s => ∃ i : Int, s = ([argS 150 a, .val false [.sl true 83 (fill a ([.i .i64, .l 118, .l 118].map zeroD) i.toNat)], .val false [.i .i64 i]], []) ∧ 0 ≤ i ∧ i ≤ a.length ∧ n = a.length - i.toNat) ?_ ?_
  · exact ⟨rfl, a.length - 0, 0, congrArg (fun z => (([argS 150 a, .val false [.sl true 83 z], .val false [.i .i64 0]], []) : Snap)) (fill_zero a _).symm, by omega, by omega, rfl⟩
  rintro n s ⟨i, rfl, h1, h2, h3⟩
  repeat' first
    | (refine And.intro ?_ ?_)
    | (intro h; cases h)
    | (intro h; rw [h])
    | (intro h)
  all_goals first
    | (show lowEdges _ = true; kernel_rfl) | (show logOk _ _ = true; kernel_rfl) | trivial | exact Or.inr rfl | exact Or.inl rfl
    | omega
    | exact of_decide_eq_true ‹_›
    | (have := of_decide_eq_true ‹decide (i < (a.length : Int)) = true›; rw [fill_length (by omega)]; omega)
    | exact congrArg (fun z => [CV.sl false 83 z]) (fill_all h1 h2 ‹_›)
    | (have hi : i < (a.length : Int) := of_decide_eq_true ‹_›
       have hk : i.toNat < a.length := by omega
       have wr : WfRow T [.i .i64, .l 216, .l 216] (a.getD i.toNat []) := wa.row rfl hk
       have hwr := wRow_le hk
       first
         | exact ⟨_, wr, by rw [wRow_rowC wr]; omega, rfl⟩
         | exact ⟨_, wr, Nat.lt_of_lt_of_le (size_row hk) (Nat.le_of_lt_succ hs), by rw [wRow_rowC wr]; omega, rfl⟩
         | (refine ⟨a.length - (i + 1).toNat, by omega, i + 1, ?_, by omega, by omega, rfl⟩
            have e1 := fill_next (z := ([.i .i64, .l 118, .l 118].map zeroD)) h1 hi (by rw [csD_rowC wr, wr.1]; rfl) (csD_rowC wr)
            have e2 : IntKind.i64.wrap (i + 1) = i + 1 := wrap_next h1 hi (Nat.le_trans la (by decide))
            exact (congrArg (fun z => (([argS 150 a, .val false [.sl true 83 z], .val false [.i .i64 (IntKind.i64.wrap (i + 1))]], []) : Snap)) e1).trans (congrArg (fun z => (([argS 150 a, .val false [.sl true 83 (fill a ([.i .i64, .l 118, .l 118].map zeroD) (i + 1).toNat)], .val false [.i .i64 z]], []) : Snap)) e2)))
/-- laws.toHistory -/
theorem ok24 : FOk Tryz.prog T 24 (toG T [.l 176, .l 150, .i .i64] [.l 90, .l 83, .i .i64]) := by
  refine fok (env := envL [(55, (toG T [.l 176] [.l 90])), (59, (toS 150 83))]) (N := 16) tabT (envL_cons ok55 (envL_cons ok59 envL_nil)) mixed Tryz.func24 rfl Tryz.call24 Tryz.ntmps24 ?_
  rintro args ⟨a, wa, hw, rfl⟩ hwf
  refine ⟨by simp, ?_⟩
  clear hwf
  rw [Tryz.results24]
  repeat' first
    | (refine And.intro ?_ ?_)
    | (intro h; cases h)
    | (intro h; rw [h])
    | (intro h)
  all_goals first
    | (show lowEdges _ = true; kernel_rfl) | (show logOk _ _ = true; kernel_rfl) | trivial | exact Or.inr rfl | exact Or.inl rfl
    | exact ⟨_, Nat.lt_of_lt_of_le (size_cell (by rw [wa.1]; decide)) (Nat.le_of_lt_succ hs), by first | omega | (clear wa; simp only [csD, CV.d, rowC, ofD, argG, List.zipIdx, List.map, wRow, wD, sub, List.range, List.range.loop, List.getD_cons_zero, List.getD_cons_succ, Nat.reduceAdd] at hw ⊢; done) | (clear wa; simp only [csD, CV.d, rowC, ofD, argG, List.zipIdx, List.map, wRow, wD, sub, List.range, List.range.loop, List.getD_cons_zero, List.getD_cons_succ, Nat.reduceAdd] at hw ⊢; omega), rfl⟩
    | exact ⟨_, by first | omega | (clear wa; simp only [csD, CV.d, rowC, ofD, argG, List.zipIdx, List.map, wRow, wD, sub, List.range, List.range.loop, List.getD_cons_zero, List.getD_cons_succ, Nat.reduceAdd] at hw ⊢; done) | (clear wa; simp only [csD, CV.d, rowC, ofD, argG, List.zipIdx, List.map, wRow, wD, sub, List.range, List.range.loop, List.getD_cons_zero, List.getD_cons_succ, Nat.reduceAdd] at hw ⊢; omega), rfl⟩
    | exact ⟨sub a 0 1, wa.sub 0 1 (by decide), by first | omega | (clear wa; simp only [csD, CV.d, rowC, ofD, argG, List.zipIdx, List.map, wRow, wD, sub, List.range, List.range.loop, List.getD_cons_zero, List.getD_cons_succ, Nat.reduceAdd] at hw ⊢; done) | (clear wa; simp only [csD, CV.d, rowC, ofD, argG, List.zipIdx, List.map, wRow, wD, sub, List.range, List.range.loop, List.getD_cons_zero, List.getD_cons_succ, Nat.reduceAdd] at hw ⊢; omega), rfl⟩
    | exact ⟨sub a 1 1, wa.sub 1 1 (by decide), by first | omega | (clear wa; simp only [csD, CV.d, rowC, ofD, argG, List.zipIdx, List.map, wRow, wD, sub, List.range, List.range.loop, List.getD_cons_zero, List.getD_cons_succ, Nat.reduceAdd] at hw ⊢; done) | (clear wa; simp only [csD, CV.d, rowC, ofD, argG, List.zipIdx, List.map, wRow, wD, sub, List.range, List.range.loop, List.getD_cons_zero, List.getD_cons_succ, Nat.reduceAdd] at hw ⊢; omega), rfl⟩
    | exact ⟨sub a 2 1, wa.sub 2 1 (by decide), by first | omega | (clear wa; simp only [csD, CV.d, rowC, ofD, argG, List.zipIdx, List.map, wRow, wD, sub, List.range, List.range.loop, List.getD_cons_zero, List.getD_cons_succ, Nat.reduceAdd] at hw ⊢; done) | (clear wa; simp only [csD, CV.d, rowC, ofD, argG, List.zipIdx, List.map, wRow, wD, sub, List.range, List.range.loop, List.getD_cons_zero, List.getD_cons_succ, Nat.reduceAdd] at hw ⊢; omega), rfl⟩
    | rfl
/-- laws.toSession -/
theorem ok7 : FOk Tryz.prog T 7 (toG T [.l 176, .i .i64, .i .i64, .l 178, .l 139, .l 146, .i .i64, .i .i64, .i .i64, .l 176, .l 150, .i .i64] [.l 90, .i .i64, .i .i64, .l 116, .l 153, .l 105, .i .i64, .i .i64, .i .i64, .l 90, .l 83, .i .i64]) := by
  refine fok (env := envL [(23, (toG T [.l 176, .i .i64, .i .i64, .l 178, .l 139, .l 146, .i .i64, .i .i64, .i .i64] [.l 90, .i .i64, .i .i64, .l 116, .l 153, .l 105, .i .i64, .i .i64, .i .i64])), (24, (toG T [.l 176, .l 150, .i .i64] [.l 90, .l 83, .i .i64]))]) (N := 13) tabT (envL_cons ok23 (envL_cons ok24 envL_nil)) mixed Tryz.func7 rfl Tryz.call7 Tryz.ntmps7 ?_
  rintro args ⟨a, wa, hw, rfl⟩ hwf
  refine ⟨by simp, ?_⟩
  clear hwf
  rw [Tryz.results7]
  repeat' first
    | (refine And.intro ?_ ?_)
    | (intro h; cases h)
    | (intro h; rw [h])
    | (intro h)
  all_goals first
    | (show lowEdges _ = true; kernel_rfl) | (show logOk _ _ = true; kernel_rfl) | trivial | exact Or.inr rfl | exact Or.inl rfl
    | exact ⟨_, Nat.lt_of_lt_of_le (size_cell (by rw [wa.1]; decide)) (Nat.le_of_lt_succ hs), by first | omega | (clear wa; simp only [csD, CV.d, rowC, ofD, argG, List.zipIdx, List.map, wRow, wD, sub, List.range, List.range.loop, List.getD_cons_zero, List.getD_cons_succ, Nat.reduceAdd] at hw ⊢; done) | (clear wa; simp only [csD, CV.d, rowC, ofD, argG, List.zipIdx, List.map, wRow, wD, sub, List.range, List.range.loop, List.getD_cons_zero, List.getD_cons_succ, Nat.reduceAdd] at hw ⊢; omega), rfl⟩
    | exact ⟨_, by first | omega | (clear wa; simp only [csD, CV.d, rowC, ofD, argG, List.zipIdx, List.map, wRow, wD, sub, List.range, List.range.loop, List.getD_cons_zero, List.getD_cons_succ, Nat.reduceAdd] at hw ⊢; done) | (clear wa; simp only [csD, CV.d, rowC, ofD, argG, List.zipIdx, List.map, wRow, wD, sub, List.range, List.range.loop, List.getD_cons_zero, List.getD_cons_succ, Nat.reduceAdd] at hw ⊢; omega), rfl⟩
    | exact ⟨sub a 0 9, wa.sub 0 9 (by decide), by first | omega | (clear wa; simp only [csD, CV.d, rowC, ofD, argG, List.zipIdx, List.map, wRow, wD, sub, List.range, List.range.loop, List.getD_cons_zero, List.getD_cons_succ, Nat.reduceAdd] at hw ⊢; done) | (clear wa; simp only [csD, CV.d, rowC, ofD, argG, List.zipIdx, List.map, wRow, wD, sub, List.range, List.range.loop, List.getD_cons_zero, List.getD_cons_succ, Nat.reduceAdd] at hw ⊢; omega), rfl⟩
    | exact ⟨sub a 9 3, wa.sub 9 3 (by decide), by first | omega | (clear wa; simp only [csD, CV.d, rowC, ofD, argG, List.zipIdx, List.map, wRow, wD, sub, List.range, List.range.loop, List.getD_cons_zero, List.getD_cons_succ, Nat.reduceAdd] at hw ⊢; done) | (clear wa; simp only [csD, CV.d, rowC, ofD, argG, List.zipIdx, List.map, wRow, wD, sub, List.range, List.range.loop, List.getD_cons_zero, List.getD_cons_succ, Nat.reduceAdd] at hw ⊢; omega), rfl⟩
    | rfl
end Go.Proofs.YtijnlnmoellbaaaGreat.Ab
