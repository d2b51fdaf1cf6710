/- Copies: printed by a program of this claim. -/
import Derived.Test.YtijnlnmoellbaaaTs
namespace Go.Proofs.Ytijnlnmoellbaaa.Ab
open Go.RowKit
set_option linter.unusedVariables false
set_option linter.unusedSimpArgs false
set_option maxRecDepth 100000
set_option maxHeartbeats 1000000
/-- laws.toCell -/
theorem ok145 : FOk Try.prog T 145 (toG T [.i .i64, .i .i64, .i .i64, .s, .s, .i .i64] [.i .i64, .i .i64, .i .i64, .s, .s, .i .i64]) := by
  refine fok (env := envL []) (N := 23) tabT envL_nil mixed Try.func145 rfl Try.call145 Try.ntmps145 ?_
  rintro args ⟨a, wa, hw, rfl⟩ hwf
  refine ⟨by simp, ?_⟩
  clear hwf
  rw [Try.results145]
  repeat' first
    | (refine And.intro ?_ ?_)
    | (intro h; cases h)
    | (intro h; rw [h])
    | (intro h)
  all_goals first
    | (show lowEdges _ = true; kernel_rfl) | (show logOk _ _ = true; kernel_rfl) | trivial | exact Or.inr rfl | exact Or.inl rfl
    | exact ⟨_, Nat.lt_of_lt_of_le (size_cell (by rw [wa.1]; decide)) (Nat.le_of_lt_succ hs), by first | omega | (clear wa; simp only [csD, CV.d, rowC, ofD, argG, List.zipIdx, List.map, wRow, wD, sub, List.range, List.range.loop, List.getD_cons_zero, List.getD_cons_succ, Nat.reduceAdd] at hw ⊢; done) | (clear wa; simp only [csD, CV.d, rowC, ofD, argG, List.zipIdx, List.map, wRow, wD, sub, List.range, List.range.loop, List.getD_cons_zero, List.getD_cons_succ, Nat.reduceAdd] at hw ⊢; omega), rfl⟩
    | exact ⟨_, by first | omega | (clear wa; simp only [csD, CV.d, rowC, ofD, argG, List.zipIdx, List.map, wRow, wD, sub, List.range, List.range.loop, List.getD_cons_zero, List.getD_cons_succ, Nat.reduceAdd] at hw ⊢; done) | (clear wa; simp only [csD, CV.d, rowC, ofD, argG, List.zipIdx, List.map, wRow, wD, sub, List.range, List.range.loop, List.getD_cons_zero, List.getD_cons_succ, Nat.reduceAdd] at hw ⊢; omega), rfl⟩
    | exact ⟨sub a 0 1, wa.sub 0 1 (by decide), by first | omega | (clear wa; simp only [csD, CV.d, rowC, ofD, argG, List.zipIdx, List.map, wRow, wD, sub, List.range, List.range.loop, List.getD_cons_zero, List.getD_cons_succ, Nat.reduceAdd] at hw ⊢; done) | (clear wa; simp only [csD, CV.d, rowC, ofD, argG, List.zipIdx, List.map, wRow, wD, sub, List.range, List.range.loop, List.getD_cons_zero, List.getD_cons_succ, Nat.reduceAdd] at hw ⊢; omega), rfl⟩
    | exact ⟨sub a 1 1, wa.sub 1 1 (by decide), by first | omega | (clear wa; simp only [csD, CV.d, rowC, ofD, argG, List.zipIdx, List.map, wRow, wD, sub, List.range, List.range.loop, List.getD_cons_zero, List.getD_cons_succ, Nat.reduceAdd] at hw ⊢; done) | (clear wa; simp only [csD, CV.d, rowC, ofD, argG, List.zipIdx, List.map, wRow, wD, sub, List.range, List.range.loop, List.getD_cons_zero, List.getD_cons_succ, Nat.reduceAdd] at hw ⊢; omega), rfl⟩
    | exact ⟨sub a 2 1, wa.sub 2 1 (by decide), by first | omega | (clear wa; simp only [csD, CV.d, rowC, ofD, argG, List.zipIdx, List.map, wRow, wD, sub, List.range, List.range.loop, List.getD_cons_zero, List.getD_cons_succ, Nat.reduceAdd] at hw ⊢; done) | (clear wa; simp only [csD, CV.d, rowC, ofD, argG, List.zipIdx, List.map, wRow, wD, sub, List.range, List.range.loop, List.getD_cons_zero, List.getD_cons_succ, Nat.reduceAdd] at hw ⊢; omega), rfl⟩
    | exact ⟨sub a 3 1, wa.sub 3 1 (by decide), by first | omega | (clear wa; simp only [csD, CV.d, rowC, ofD, argG, List.zipIdx, List.map, wRow, wD, sub, List.range, List.range.loop, List.getD_cons_zero, List.getD_cons_succ, Nat.reduceAdd] at hw ⊢; done) | (clear wa; simp only [csD, CV.d, rowC, ofD, argG, List.zipIdx, List.map, wRow, wD, sub, List.range, List.range.loop, List.getD_cons_zero, List.getD_cons_succ, Nat.reduceAdd] at hw ⊢; omega), rfl⟩
    | exact ⟨sub a 4 1, wa.sub 4 1 (by decide), by first | omega | (clear wa; simp only [csD, CV.d, rowC, ofD, argG, List.zipIdx, List.map, wRow, wD, sub, List.range, List.range.loop, List.getD_cons_zero, List.getD_cons_succ, Nat.reduceAdd] at hw ⊢; done) | (clear wa; simp only [csD, CV.d, rowC, ofD, argG, List.zipIdx, List.map, wRow, wD, sub, List.range, List.range.loop, List.getD_cons_zero, List.getD_cons_succ, Nat.reduceAdd] at hw ⊢; omega), rfl⟩
    | exact ⟨sub a 5 1, wa.sub 5 1 (by decide), by first | omega | (clear wa; simp only [csD, CV.d, rowC, ofD, argG, List.zipIdx, List.map, wRow, wD, sub, List.range, List.range.loop, List.getD_cons_zero, List.getD_cons_succ, Nat.reduceAdd] at hw ⊢; done) | (clear wa; simp only [csD, CV.d, rowC, ofD, argG, List.zipIdx, List.map, wRow, wD, sub, List.range, List.range.loop, List.getD_cons_zero, List.getD_cons_succ, Nat.reduceAdd] at hw ⊢; omega), rfl⟩
    | rfl
/-- laws.toCellS -/
theorem ok98 : FOk Try.prog T 98 (toS 181 146) := by
  refine fok (env := envL [(145, (toG T [.i .i64, .i .i64, .i .i64, .s, .s, .i .i64] [.i .i64, .i .i64, .i .i64, .s, .s, .i .i64]))]) (N := 23) tabT (envL_cons ok145 envL_nil) mixed Try.func98 rfl Try.call98 Try.ntmps98 ?_
  rintro args ⟨a, hw, rfl⟩ hwf
  have wa : WfD T (.l 181) (.l a) := arg0 hwf (List.mem_singleton_self _)
  clear hwf
  have la : a.length ≤ 1048576 := by omega
  refine ⟨by simp, ?_⟩
  rw [Try.results98]
  repeat' first
    | (refine And.intro ?_ ?_)
    | (intro h; cases h)
    | (intro h; rw [h])
    | (intro h)
  all_goals first
    | (show lowEdges _ = true; kernel_rfl) | (show logOk _ _ = true; kernel_rfl) | trivial | exact Or.inr rfl | exact Or.inl rfl
    | rfl
    | (simp only [Ty.bytes]; omega)
    | omega
    | skip
  refine awp_loop (Q := _) [0, 3, 4] [] (fun n s => ∃ i : Int, s = ([argS 181 a, .val false [.sl true 146 (fill a ([.i .i64, .i .i64, .i .i64, .s, .s, .i .i64].map zeroD) i.toNat)], .val false [.i .i64 i]], []) ∧ 0 ≤ i ∧ i ≤ a.length ∧ n = a.length - i.toNat) ?_ ?_
  · exact ⟨rfl, a.length - 0, 0, congrArg (fun z => (([argS 181 a, .val false [.sl true 146 z], .val false [.i .i64 0]], []) : Snap)) (fill_zero a _).symm, by omega, by omega, rfl⟩
  rintro n s ⟨i, rfl, h1, h2, h3⟩
  repeat' first
    | (refine And.intro ?_ ?_)
    | (intro h; cases h)
    | (intro h; rw [h])
    | (intro h)
  all_goals first
    | (show lowEdges _ = true; kernel_rfl) | (show logOk _ _ = true; kernel_rfl) | trivial | exact Or.inr rfl | exact Or.inl rfl
    | omega
    | exact of_decide_eq_true ‹_›
    | (have := of_decide_eq_true ‹decide (i < (a.length : Int)) = true›; rw [fill_length (by omega)]; omega)
    | exact congrArg (fun z => [CV.sl false 146 z]) (fill_all h1 h2 ‹_›)
    | (have hi : i < (a.length : Int) := of_decide_eq_true ‹_›
       have hk : i.toNat < a.length := by omega
       have wr : WfRow T [.i .i64, .i .i64, .i .i64, .s, .s, .i .i64] (a.getD i.toNat []) := wa.row rfl hk
       have hwr := wRow_le hk
       first
         | exact ⟨_, wr, by rw [wRow_rowC wr]; omega, rfl⟩
         | exact ⟨_, wr, Nat.lt_of_lt_of_le (size_row hk) (Nat.le_of_lt_succ hs), by rw [wRow_rowC wr]; omega, rfl⟩
         | (refine ⟨a.length - (i + 1).toNat, by omega, i + 1, ?_, by omega, by omega, rfl⟩
            have e1 := fill_next (z := ([.i .i64, .i .i64, .i .i64, .s, .s, .i .i64].map zeroD)) h1 hi (by rw [csD_rowC wr, wr.1]; rfl) (csD_rowC wr)
            have e2 : IntKind.i64.wrap (i + 1) = i + 1 := wrap_next h1 hi (Nat.le_trans la (by decide))
            exact (congrArg (fun z => (([argS 181 a, .val false [.sl true 146 z], .val false [.i .i64 (IntKind.i64.wrap (i + 1))]], []) : Snap)) e1).trans (congrArg (fun z => (([argS 181 a, .val false [.sl true 146 (fill a ([.i .i64, .i .i64, .i .i64, .s, .s, .i .i64].map zeroD) (i + 1).toNat)], .val false [.i .i64 z]], []) : Snap)) e2)))
/-- laws.toNotebook -/
theorem ok54 : FOk Try.prog T 54 (toG T [.l 181] [.l 146]) := by
  refine fok (env := envL [(98, (toS 181 146))]) (N := 9) tabT (envL_cons ok98 envL_nil) mixed Try.func54 rfl Try.call54 Try.ntmps54 ?_
  rintro args ⟨a, wa, hw, rfl⟩ hwf
  refine ⟨by simp, ?_⟩
  clear hwf
  rw [Try.results54]
  repeat' first
    | (refine And.intro ?_ ?_)
    | (intro h; cases h)
    | (intro h; rw [h])
    | (intro h)
  all_goals first
    | (show lowEdges _ = true; kernel_rfl) | (show logOk _ _ = true; kernel_rfl) | trivial | exact Or.inr rfl | exact Or.inl rfl
    | exact ⟨_, Nat.lt_of_lt_of_le (size_cell (by rw [wa.1]; decide)) (Nat.le_of_lt_succ hs), by first | omega | (clear wa; simp only [csD, CV.d, rowC, ofD, argG, List.zipIdx, List.map, wRow, wD, sub, List.range, List.range.loop, List.getD_cons_zero, List.getD_cons_succ, Nat.reduceAdd] at hw ⊢; done) | (clear wa; simp only [csD, CV.d, rowC, ofD, argG, List.zipIdx, List.map, wRow, wD, sub, List.range, List.range.loop, List.getD_cons_zero, List.getD_cons_succ, Nat.reduceAdd] at hw ⊢; omega), rfl⟩
    | exact ⟨_, by first | omega | (clear wa; simp only [csD, CV.d, rowC, ofD, argG, List.zipIdx, List.map, wRow, wD, sub, List.range, List.range.loop, List.getD_cons_zero, List.getD_cons_succ, Nat.reduceAdd] at hw ⊢; done) | (clear wa; simp only [csD, CV.d, rowC, ofD, argG, List.zipIdx, List.map, wRow, wD, sub, List.range, List.range.loop, List.getD_cons_zero, List.getD_cons_succ, Nat.reduceAdd] at hw ⊢; omega), rfl⟩
    | exact ⟨sub a 0 1, wa.sub 0 1 (by decide), by first | omega | (clear wa; simp only [csD, CV.d, rowC, ofD, argG, List.zipIdx, List.map, wRow, wD, sub, List.range, List.range.loop, List.getD_cons_zero, List.getD_cons_succ, Nat.reduceAdd] at hw ⊢; done) | (clear wa; simp only [csD, CV.d, rowC, ofD, argG, List.zipIdx, List.map, wRow, wD, sub, List.range, List.range.loop, List.getD_cons_zero, List.getD_cons_succ, Nat.reduceAdd] at hw ⊢; omega), rfl⟩
    | rfl
/-- laws.toFile -/
theorem ok146 : FOk Try.prog T 146 (toG T [.s, .i .i64] [.s, .i .i64]) := by
  refine fok (env := envL []) (N := 11) tabT envL_nil mixed Try.func146 rfl Try.call146 Try.ntmps146 ?_
  rintro args ⟨a, wa, hw, rfl⟩ hwf
  refine ⟨by simp, ?_⟩
  clear hwf
  rw [Try.results146]
  repeat' first
    | (refine And.intro ?_ ?_)
    | (intro h; cases h)
    | (intro h; rw [h])
    | (intro h)
  all_goals first
    | (show lowEdges _ = true; kernel_rfl) | (show logOk _ _ = true; kernel_rfl) | trivial | exact Or.inr rfl | exact Or.inl rfl
    | exact ⟨_, Nat.lt_of_lt_of_le (size_cell (by rw [wa.1]; decide)) (Nat.le_of_lt_succ hs), by first | omega | (clear wa; simp only [csD, CV.d, rowC, ofD, argG, List.zipIdx, List.map, wRow, wD, sub, List.range, List.range.loop, List.getD_cons_zero, List.getD_cons_succ, Nat.reduceAdd] at hw ⊢; done) | (clear wa; simp only [csD, CV.d, rowC, ofD, argG, List.zipIdx, List.map, wRow, wD, sub, List.range, List.range.loop, List.getD_cons_zero, List.getD_cons_succ, Nat.reduceAdd] at hw ⊢; omega), rfl⟩
    | exact ⟨_, by first | omega | (clear wa; simp only [csD, CV.d, rowC, ofD, argG, List.zipIdx, List.map, wRow, wD, sub, List.range, List.range.loop, List.getD_cons_zero, List.getD_cons_succ, Nat.reduceAdd] at hw ⊢; done) | (clear wa; simp only [csD, CV.d, rowC, ofD, argG, List.zipIdx, List.map, wRow, wD, sub, List.range, List.range.loop, List.getD_cons_zero, List.getD_cons_succ, Nat.reduceAdd] at hw ⊢; omega), rfl⟩
    | exact ⟨sub a 0 1, wa.sub 0 1 (by decide), by first | omega | (clear wa; simp only [csD, CV.d, rowC, ofD, argG, List.zipIdx, List.map, wRow, wD, sub, List.range, List.range.loop, List.getD_cons_zero, List.getD_cons_succ, Nat.reduceAdd] at hw ⊢; done) | (clear wa; simp only [csD, CV.d, rowC, ofD, argG, List.zipIdx, List.map, wRow, wD, sub, List.range, List.range.loop, List.getD_cons_zero, List.getD_cons_succ, Nat.reduceAdd] at hw ⊢; omega), rfl⟩
    | exact ⟨sub a 1 1, wa.sub 1 1 (by decide), by first | omega | (clear wa; simp only [csD, CV.d, rowC, ofD, argG, List.zipIdx, List.map, wRow, wD, sub, List.range, List.range.loop, List.getD_cons_zero, List.getD_cons_succ, Nat.reduceAdd] at hw ⊢; done) | (clear wa; simp only [csD, CV.d, rowC, ofD, argG, List.zipIdx, List.map, wRow, wD, sub, List.range, List.range.loop, List.getD_cons_zero, List.getD_cons_succ, Nat.reduceAdd] at hw ⊢; omega), rfl⟩
    | rfl
/-- laws.toFileS -/
theorem ok99 : FOk Try.prog T 99 (toS 183 113) := by
  refine fok (env := envL [(146, (toG T [.s, .i .i64] [.s, .i .i64]))]) (N := 23) tabT (envL_cons ok146 envL_nil) mixed Try.func99 rfl Try.call99 Try.ntmps99 ?_
  rintro args ⟨a, hw, rfl⟩ hwf
  have wa : WfD T (.l 183) (.l a) := arg0 hwf (List.mem_singleton_self _)
  clear hwf
  have la : a.length ≤ 1048576 := by omega
  refine ⟨by simp, ?_⟩
  rw [Try.results99]
  repeat' first
    | (refine And.intro ?_ ?_)
    | (intro h; cases h)
    | (intro h; rw [h])
    | (intro h)
  all_goals first
    | (show lowEdges _ = true; kernel_rfl) | (show logOk _ _ = true; kernel_rfl) | trivial | exact Or.inr rfl | exact Or.inl rfl
    | rfl
    | (simp only [Ty.bytes]; omega)
    | omega
    | skip
  refine awp_loop (Q := _) [0, 3, 4] [] (fun n s => ∃ i : Int, s = ([argS 183 a, .val false [.sl true 113 (fill a ([.s, .i .i64].map zeroD) i.toNat)], .val false [.i .i64 i]], []) ∧ 0 ≤ i ∧ i ≤ a.length ∧ n = a.length - i.toNat) ?_ ?_
  · exact ⟨rfl, a.length - 0, 0, congrArg (fun z => (([argS 183 a, .val false [.sl true 113 z], .val false [.i .i64 0]], []) : Snap)) (fill_zero a _).symm, by omega, by omega, rfl⟩
  rintro n s ⟨i, rfl, h1, h2, h3⟩
  repeat' first
    | (refine And.intro ?_ ?_)
    | (intro h; cases h)
    | (intro h; rw [h])
    | (intro h)
  all_goals first
    | (show lowEdges _ = true; kernel_rfl) | (show logOk _ _ = true; kernel_rfl) | trivial | exact Or.inr rfl | exact Or.inl rfl
    | omega
    | exact of_decide_eq_true ‹_›
    | (have := of_decide_eq_true ‹decide (i < (a.length : Int)) = true›; rw [fill_length (by omega)]; omega)
    | exact congrArg (fun z => [CV.sl false 113 z]) (fill_all h1 h2 ‹_›)
    | (have hi : i < (a.length : Int) := of_decide_eq_true ‹_›
       have hk : i.toNat < a.length := by omega
       have wr : WfRow T [.s, .i .i64] (a.getD i.toNat []) := wa.row rfl hk
       have hwr := wRow_le hk
       first
         | exact ⟨_, wr, by rw [wRow_rowC wr]; omega, rfl⟩
         | exact ⟨_, wr, Nat.lt_of_lt_of_le (size_row hk) (Nat.le_of_lt_succ hs), by rw [wRow_rowC wr]; omega, rfl⟩
         | (refine ⟨a.length - (i + 1).toNat, by omega, i + 1, ?_, by omega, by omega, rfl⟩
            have e1 := fill_next (z := ([.s, .i .i64].map zeroD)) h1 hi (by rw [csD_rowC wr, wr.1]; rfl) (csD_rowC wr)
            have e2 : IntKind.i64.wrap (i + 1) = i + 1 := wrap_next h1 hi (Nat.le_trans la (by decide))
            exact (congrArg (fun z => (([argS 183 a, .val false [.sl true 113 z], .val false [.i .i64 (IntKind.i64.wrap (i + 1))]], []) : Snap)) e1).trans (congrArg (fun z => (([argS 183 a, .val false [.sl true 113 (fill a ([.s, .i .i64].map zeroD) (i + 1).toNat)], .val false [.i .i64 z]], []) : Snap)) e2)))
/-- laws.toWorld -/
theorem ok55 : FOk Try.prog T 55 (toG T [.i .i64, .i .i64, .l 183] [.i .i64, .i .i64, .l 113]) := by
  refine fok (env := envL [(99, (toS 183 113))]) (N := 15) tabT (envL_cons ok99 envL_nil) mixed Try.func55 rfl Try.call55 Try.ntmps55 ?_
  rintro args ⟨a, wa, hw, rfl⟩ hwf
  refine ⟨by simp, ?_⟩
  clear hwf
  rw [Try.results55]
  repeat' first
    | (refine And.intro ?_ ?_)
    | (intro h; cases h)
    | (intro h; rw [h])
    | (intro h)
  all_goals first
    | (show lowEdges _ = true; kernel_rfl) | (show logOk _ _ = true; kernel_rfl) | trivial | exact Or.inr rfl | exact Or.inl rfl
    | exact ⟨_, Nat.lt_of_lt_of_le (size_cell (by rw [wa.1]; decide)) (Nat.le_of_lt_succ hs), by first | omega | (clear wa; simp only [csD, CV.d, rowC, ofD, argG, List.zipIdx, List.map, wRow, wD, sub, List.range, List.range.loop, List.getD_cons_zero, List.getD_cons_succ, Nat.reduceAdd] at hw ⊢; done) | (clear wa; simp only [csD, CV.d, rowC, ofD, argG, List.zipIdx, List.map, wRow, wD, sub, List.range, List.range.loop, List.getD_cons_zero, List.getD_cons_succ, Nat.reduceAdd] at hw ⊢; omega), rfl⟩
    | exact ⟨_, by first | omega | (clear wa; simp only [csD, CV.d, rowC, ofD, argG, List.zipIdx, List.map, wRow, wD, sub, List.range, List.range.loop, List.getD_cons_zero, List.getD_cons_succ, Nat.reduceAdd] at hw ⊢; done) | (clear wa; simp only [csD, CV.d, rowC, ofD, argG, List.zipIdx, List.map, wRow, wD, sub, List.range, List.range.loop, List.getD_cons_zero, List.getD_cons_succ, Nat.reduceAdd] at hw ⊢; omega), rfl⟩
    | exact ⟨sub a 0 1, wa.sub 0 1 (by decide), by first | omega | (clear wa; simp only [csD, CV.d, rowC, ofD, argG, List.zipIdx, List.map, wRow, wD, sub, List.range, List.range.loop, List.getD_cons_zero, List.getD_cons_succ, Nat.reduceAdd] at hw ⊢; done) | (clear wa; simp only [csD, CV.d, rowC, ofD, argG, List.zipIdx, List.map, wRow, wD, sub, List.range, List.range.loop, List.getD_cons_zero, List.getD_cons_succ, Nat.reduceAdd] at hw ⊢; omega), rfl⟩
    | exact ⟨sub a 1 1, wa.sub 1 1 (by decide), by first | omega | (clear wa; simp only [csD, CV.d, rowC, ofD, argG, List.zipIdx, List.map, wRow, wD, sub, List.range, List.range.loop, List.getD_cons_zero, List.getD_cons_succ, Nat.reduceAdd] at hw ⊢; done) | (clear wa; simp only [csD, CV.d, rowC, ofD, argG, List.zipIdx, List.map, wRow, wD, sub, List.range, List.range.loop, List.getD_cons_zero, List.getD_cons_succ, Nat.reduceAdd] at hw ⊢; omega), rfl⟩
    | exact ⟨sub a 2 1, wa.sub 2 1 (by decide), by first | omega | (clear wa; simp only [csD, CV.d, rowC, ofD, argG, List.zipIdx, List.map, wRow, wD, sub, List.range, List.range.loop, List.getD_cons_zero, List.getD_cons_succ, Nat.reduceAdd] at hw ⊢; done) | (clear wa; simp only [csD, CV.d, rowC, ofD, argG, List.zipIdx, List.map, wRow, wD, sub, List.range, List.range.loop, List.getD_cons_zero, List.getD_cons_succ, Nat.reduceAdd] at hw ⊢; omega), rfl⟩
    | rfl
/-- laws.toStringS -/
theorem ok174 : FOk Try.prog T 174 (toS 9 9) := by
  refine fok (env := envL []) (N := 22) tabT envL_nil mixed Try.func174 rfl Try.call174 Try.ntmps174 ?_
  rintro args ⟨a, hw, rfl⟩ hwf
  have wa : WfD T (.l 9) (.l a) := arg0 hwf (List.mem_singleton_self _)
  clear hwf
  have la : a.length ≤ 1048576 := by omega
  refine ⟨by simp, ?_⟩
  rw [Try.results174]
  repeat' first
    | (refine And.intro ?_ ?_)
    | (intro h; cases h)
    | (intro h; rw [h])
    | (intro h)
  all_goals first
    | (show lowEdges _ = true; kernel_rfl) | (show logOk _ _ = true; kernel_rfl) | trivial | exact Or.inr rfl | exact Or.inl rfl
    | rfl
    | (simp only [Ty.bytes]; omega)
    | omega
    | skip
  refine awp_loop (Q := _) [0, 3, 4] [] (fun n s => ∃ i : Int, s = ([argS 9 a, .val false [.sl true 9 (fill a ([.s].map zeroD) i.toNat)], .val false [.i .i64 i]], []) ∧ 0 ≤ i ∧ i ≤ a.length ∧ n = a.length - i.toNat) ?_ ?_
  · exact ⟨rfl, a.length - 0, 0, congrArg (fun z => (([argS 9 a, .val false [.sl true 9 z], .val false [.i .i64 0]], []) : Snap)) (fill_zero a _).symm, by omega, by omega, rfl⟩
  rintro n s ⟨i, rfl, h1, h2, h3⟩
  repeat' first
    | (refine And.intro ?_ ?_)
    | (intro h; cases h)
    | (intro h; rw [h])
    | (intro h)
  all_goals first
    | (show lowEdges _ = true; kernel_rfl) | (show logOk _ _ = true; kernel_rfl) | trivial | exact Or.inr rfl | exact Or.inl rfl
    | omega
    | exact of_decide_eq_true ‹_›
    | (have := of_decide_eq_true ‹decide (i < (a.length : Int)) = true›; rw [fill_length (by omega)]; omega)
    | exact congrArg (fun z => [CV.sl false 9 z]) (fill_all h1 h2 ‹_›)
    | (have hi : i < (a.length : Int) := of_decide_eq_true ‹_›
       have hk : i.toNat < a.length := by omega
       have wr : WfRow T [.s] (a.getD i.toNat []) := wa.row rfl hk
       have hwr := wRow_le hk
       first
         | exact ⟨_, wr, by rw [wRow_rowC wr]; omega, rfl⟩
         | exact ⟨_, wr, Nat.lt_of_lt_of_le (size_row hk) (Nat.le_of_lt_succ hs), by rw [wRow_rowC wr]; omega, rfl⟩
         | (refine ⟨a.length - (i + 1).toNat, by omega, i + 1, ?_, by omega, by omega, rfl⟩
            have e1 := fill_next (z := ([.s].map zeroD)) h1 hi (by rw [csD_rowC wr, wr.1]; rfl) (csD_rowC wr)
            have e2 : IntKind.i64.wrap (i + 1) = i + 1 := wrap_next h1 hi (Nat.le_trans la (by decide))
            exact (congrArg (fun z => (([argS 9 a, .val false [.sl true 9 z], .val false [.i .i64 (IntKind.i64.wrap (i + 1))]], []) : Snap)) e1).trans (congrArg (fun z => (([argS 9 a, .val false [.sl true 9 (fill a ([.s].map zeroD) (i + 1).toNat)], .val false [.i .i64 z]], []) : Snap)) e2)))
/-- laws.toIntS -/
theorem ok147 : FOk Try.prog T 147 (toS 3 3) := by
  refine fok (env := envL []) (N := 22) tabT envL_nil mixed Try.func147 rfl Try.call147 Try.ntmps147 ?_
  rintro args ⟨a, hw, rfl⟩ hwf
  have wa : WfD T (.l 3) (.l a) := arg0 hwf (List.mem_singleton_self _)
  clear hwf
  have la : a.length ≤ 1048576 := by omega
  refine ⟨by simp, ?_⟩
  rw [Try.results147]
  repeat' first
    | (refine And.intro ?_ ?_)
    | (intro h; cases h)
    | (intro h; rw [h])
    | (intro h)
  all_goals first
    | (show lowEdges _ = true; kernel_rfl) | (show logOk _ _ = true; kernel_rfl) | trivial | exact Or.inr rfl | exact Or.inl rfl
    | rfl
    | (simp only [Ty.bytes]; omega)
    | omega
    | skip
  refine awp_loop (Q := _) [0, 3, 4] [] (fun n s => ∃ i : Int, s = ([argS 3 a, .val false [.sl true 3 (fill a ([.i .i64].map zeroD) i.toNat)], .val false [.i .i64 i]], []) ∧ 0 ≤ i ∧ i ≤ a.length ∧ n = a.length - i.toNat) ?_ ?_
  · exact ⟨rfl, a.length - 0, 0, congrArg (fun z => (([argS 3 a, .val false [.sl true 3 z], .val false [.i .i64 0]], []) : Snap)) (fill_zero a _).symm, by omega, by omega, rfl⟩
  rintro n s ⟨i, rfl, h1, h2, h3⟩
  repeat' first
    | (refine And.intro ?_ ?_)
    | (intro h; cases h)
    | (intro h; rw [h])
    | (intro h)
  all_goals first
    | (show lowEdges _ = true; kernel_rfl) | (show logOk _ _ = true; kernel_rfl) | trivial | exact Or.inr rfl | exact Or.inl rfl
    | omega
    | exact of_decide_eq_true ‹_›
    | (have := of_decide_eq_true ‹decide (i < (a.length : Int)) = true›; rw [fill_length (by omega)]; omega)
    | exact congrArg (fun z => [CV.sl false 3 z]) (fill_all h1 h2 ‹_›)
    | (have hi : i < (a.length : Int) := of_decide_eq_true ‹_›
       have hk : i.toNat < a.length := by omega
       have wr : WfRow T [.i .i64] (a.getD i.toNat []) := wa.row rfl hk
       have hwr := wRow_le hk
       first
         | exact ⟨_, wr, by rw [wRow_rowC wr]; omega, rfl⟩
         | exact ⟨_, wr, Nat.lt_of_lt_of_le (size_row hk) (Nat.le_of_lt_succ hs), by rw [wRow_rowC wr]; omega, rfl⟩
         | (refine ⟨a.length - (i + 1).toNat, by omega, i + 1, ?_, by omega, by omega, rfl⟩
            have e1 := fill_next (z := ([.i .i64].map zeroD)) h1 hi (by rw [csD_rowC wr, wr.1]; rfl) (csD_rowC wr)
            have e2 : IntKind.i64.wrap (i + 1) = i + 1 := wrap_next h1 hi (Nat.le_trans la (by decide))
            exact (congrArg (fun z => (([argS 3 a, .val false [.sl true 3 z], .val false [.i .i64 (IntKind.i64.wrap (i + 1))]], []) : Snap)) e1).trans (congrArg (fun z => (([argS 3 a, .val false [.sl true 3 (fill a ([.i .i64].map zeroD) (i + 1).toNat)], .val false [.i .i64 z]], []) : Snap)) e2)))
/-- laws.toOrigin -/
theorem ok198 : FOk Try.prog T 198 (toG T [.i .i64, .i .i64] [.i .i64, .i .i64]) := by
  refine fok (env := envL []) (N := 11) tabT envL_nil mixed Try.func198 rfl Try.call198 Try.ntmps198 ?_
  rintro args ⟨a, wa, hw, rfl⟩ hwf
  refine ⟨by simp, ?_⟩
  clear hwf
  rw [Try.results198]
  repeat' first
    | (refine And.intro ?_ ?_)
    | (intro h; cases h)
    | (intro h; rw [h])
    | (intro h)
  all_goals first
    | (show lowEdges _ = true; kernel_rfl) | (show logOk _ _ = true; kernel_rfl) | trivial | exact Or.inr rfl | exact Or.inl rfl
    | exact ⟨_, Nat.lt_of_lt_of_le (size_cell (by rw [wa.1]; decide)) (Nat.le_of_lt_succ hs), by first | omega | (clear wa; simp only [csD, CV.d, rowC, ofD, argG, List.zipIdx, List.map, wRow, wD, sub, List.range, List.range.loop, List.getD_cons_zero, List.getD_cons_succ, Nat.reduceAdd] at hw ⊢; done) | (clear wa; simp only [csD, CV.d, rowC, ofD, argG, List.zipIdx, List.map, wRow, wD, sub, List.range, List.range.loop, List.getD_cons_zero, List.getD_cons_succ, Nat.reduceAdd] at hw ⊢; omega), rfl⟩
    | exact ⟨_, by first | omega | (clear wa; simp only [csD, CV.d, rowC, ofD, argG, List.zipIdx, List.map, wRow, wD, sub, List.range, List.range.loop, List.getD_cons_zero, List.getD_cons_succ, Nat.reduceAdd] at hw ⊢; done) | (clear wa; simp only [csD, CV.d, rowC, ofD, argG, List.zipIdx, List.map, wRow, wD, sub, List.range, List.range.loop, List.getD_cons_zero, List.getD_cons_succ, Nat.reduceAdd] at hw ⊢; omega), rfl⟩
    | exact ⟨sub a 0 1, wa.sub 0 1 (by decide), by first | omega | (clear wa; simp only [csD, CV.d, rowC, ofD, argG, List.zipIdx, List.map, wRow, wD, sub, List.range, List.range.loop, List.getD_cons_zero, List.getD_cons_succ, Nat.reduceAdd] at hw ⊢; done) | (clear wa; simp only [csD, CV.d, rowC, ofD, argG, List.zipIdx, List.map, wRow, wD, sub, List.range, List.range.loop, List.getD_cons_zero, List.getD_cons_succ, Nat.reduceAdd] at hw ⊢; omega), rfl⟩
    | exact ⟨sub a 1 1, wa.sub 1 1 (by decide), by first | omega | (clear wa; simp only [csD, CV.d, rowC, ofD, argG, List.zipIdx, List.map, wRow, wD, sub, List.range, List.range.loop, List.getD_cons_zero, List.getD_cons_succ, Nat.reduceAdd] at hw ⊢; done) | (clear wa; simp only [csD, CV.d, rowC, ofD, argG, List.zipIdx, List.map, wRow, wD, sub, List.range, List.range.loop, List.getD_cons_zero, List.getD_cons_succ, Nat.reduceAdd] at hw ⊢; omega), rfl⟩
    | rfl
/-- laws.toOriginS -/
theorem ok194 : FOk Try.prog T 194 (toS 228 192) := by
  refine fok (env := envL [(198, (toG T [.i .i64, .i .i64] [.i .i64, .i .i64]))]) (N := 23) tabT (envL_cons ok198 envL_nil) mixed Try.func194 rfl Try.call194 Try.ntmps194 ?_
  rintro args ⟨a, hw, rfl⟩ hwf
  have wa : WfD T (.l 228) (.l a) := arg0 hwf (List.mem_singleton_self _)
  clear hwf
  have la : a.length ≤ 1048576 := by omega
  refine ⟨by simp, ?_⟩
  rw [Try.results194]
  repeat' first
    | (refine And.intro ?_ ?_)
    | (intro h; cases h)
    | (intro h; rw [h])
    | (intro h)
  all_goals first
    | (show lowEdges _ = true; kernel_rfl) | (show logOk _ _ = true; kernel_rfl) | trivial | exact Or.inr rfl | exact Or.inl rfl
    | rfl
    | (simp only [Ty.bytes]; omega)
    | omega
    | skip
  refine awp_loop (Q := _) [0, 3, 4] [] (fun n s => ∃ i : Int, s = ([argS 228 a, .val false [.sl true 192 (fill a ([.i .i64, .i .i64].map zeroD) i.toNat)], .val false [.i .i64 i]], []) ∧ 0 ≤ i ∧ i ≤ a.length ∧ n = a.length - i.toNat) ?_ ?_
  · exact ⟨rfl, a.length - 0, 0, congrArg (fun z => (([argS 228 a, .val false [.sl true 192 z], .val false [.i .i64 0]], []) : Snap)) (fill_zero a _).symm, by omega, by omega, rfl⟩
  rintro n s ⟨i, rfl, h1, h2, h3⟩
  repeat' first
    | (refine And.intro ?_ ?_)
    | (intro h; cases h)
    | (intro h; rw [h])
    | (intro h)
  all_goals first
    | (show lowEdges _ = true; kernel_rfl) | (show logOk _ _ = true; kernel_rfl) | trivial | exact Or.inr rfl | exact Or.inl rfl
    | omega
    | exact of_decide_eq_true ‹_›
    | (have := of_decide_eq_true ‹decide (i < (a.length : Int)) = true›; rw [fill_length (by omega)]; omega)
    | exact congrArg (fun z => [CV.sl false 192 z]) (fill_all h1 h2 ‹_›)
    | (have hi : i < (a.length : Int) := of_decide_eq_true ‹_›
       have hk : i.toNat < a.length := by omega
       have wr : WfRow T [.i .i64, .i .i64] (a.getD i.toNat []) := wa.row rfl hk
       have hwr := wRow_le hk
       first
         | exact ⟨_, wr, by rw [wRow_rowC wr]; omega, rfl⟩
         | exact ⟨_, wr, Nat.lt_of_lt_of_le (size_row hk) (Nat.le_of_lt_succ hs), by rw [wRow_rowC wr]; omega, rfl⟩
         | (refine ⟨a.length - (i + 1).toNat, by omega, i + 1, ?_, by omega, by omega, rfl⟩
            have e1 := fill_next (z := ([.i .i64, .i .i64].map zeroD)) h1 hi (by rw [csD_rowC wr, wr.1]; rfl) (csD_rowC wr)
            have e2 : IntKind.i64.wrap (i + 1) = i + 1 := wrap_next h1 hi (Nat.le_trans la (by decide))
            exact (congrArg (fun z => (([argS 228 a, .val false [.sl true 192 z], .val false [.i .i64 (IntKind.i64.wrap (i + 1))]], []) : Snap)) e1).trans (congrArg (fun z => (([argS 228 a, .val false [.sl true 192 (fill a ([.i .i64, .i .i64].map zeroD) (i + 1).toNat)], .val false [.i .i64 z]], []) : Snap)) e2)))
/-- laws.toRow -/
theorem ok187 : FOk Try.prog T 187 (toG T [.l 3, .l 228] [.l 3, .l 192]) := by
  refine fok (env := envL [(147, (toS 3 3)), (194, (toS 228 192))]) (N := 13) tabT (envL_cons ok147 (envL_cons ok194 envL_nil)) mixed Try.func187 rfl Try.call187 Try.ntmps187 ?_
  rintro args ⟨a, wa, hw, rfl⟩ hwf
  refine ⟨by simp, ?_⟩
  clear hwf
  rw [Try.results187]
  repeat' first
    | (refine And.intro ?_ ?_)
    | (intro h; cases h)
    | (intro h; rw [h])
    | (intro h)
  all_goals first
    | (show lowEdges _ = true; kernel_rfl) | (show logOk _ _ = true; kernel_rfl) | trivial | exact Or.inr rfl | exact Or.inl rfl
    | exact ⟨_, Nat.lt_of_lt_of_le (size_cell (by rw [wa.1]; decide)) (Nat.le_of_lt_succ hs), by first | omega | (clear wa; simp only [csD, CV.d, rowC, ofD, argG, List.zipIdx, List.map, wRow, wD, sub, List.range, List.range.loop, List.getD_cons_zero, List.getD_cons_succ, Nat.reduceAdd] at hw ⊢; done) | (clear wa; simp only [csD, CV.d, rowC, ofD, argG, List.zipIdx, List.map, wRow, wD, sub, List.range, List.range.loop, List.getD_cons_zero, List.getD_cons_succ, Nat.reduceAdd] at hw ⊢; omega), rfl⟩
    | exact ⟨_, by first | omega | (clear wa; simp only [csD, CV.d, rowC, ofD, argG, List.zipIdx, List.map, wRow, wD, sub, List.range, List.range.loop, List.getD_cons_zero, List.getD_cons_succ, Nat.reduceAdd] at hw ⊢; done) | (clear wa; simp only [csD, CV.d, rowC, ofD, argG, List.zipIdx, List.map, wRow, wD, sub, List.range, List.range.loop, List.getD_cons_zero, List.getD_cons_succ, Nat.reduceAdd] at hw ⊢; omega), rfl⟩
    | exact ⟨sub a 0 1, wa.sub 0 1 (by decide), by first | omega | (clear wa; simp only [csD, CV.d, rowC, ofD, argG, List.zipIdx, List.map, wRow, wD, sub, List.range, List.range.loop, List.getD_cons_zero, List.getD_cons_succ, Nat.reduceAdd] at hw ⊢; done) | (clear wa; simp only [csD, CV.d, rowC, ofD, argG, List.zipIdx, List.map, wRow, wD, sub, List.range, List.range.loop, List.getD_cons_zero, List.getD_cons_succ, Nat.reduceAdd] at hw ⊢; omega), rfl⟩
    | exact ⟨sub a 1 1, wa.sub 1 1 (by decide), by first | omega | (clear wa; simp only [csD, CV.d, rowC, ofD, argG, List.zipIdx, List.map, wRow, wD, sub, List.range, List.range.loop, List.getD_cons_zero, List.getD_cons_succ, Nat.reduceAdd] at hw ⊢; done) | (clear wa; simp only [csD, CV.d, rowC, ofD, argG, List.zipIdx, List.map, wRow, wD, sub, List.range, List.range.loop, List.getD_cons_zero, List.getD_cons_succ, Nat.reduceAdd] at hw ⊢; omega), rfl⟩
    | rfl
/-- laws.toRowS -/
theorem ok175 : FOk Try.prog T 175 (toS 218 172) := by
  refine fok (env := envL [(187, (toG T [.l 3, .l 228] [.l 3, .l 192]))]) (N := 23) tabT (envL_cons ok187 envL_nil) mixed Try.func175 rfl Try.call175 Try.ntmps175 ?_
  rintro args ⟨a, hw, rfl⟩ hwf
  have wa : WfD T (.l 218) (.l a) := arg0 hwf (List.mem_singleton_self _)
  clear hwf
  have la : a.length ≤ 1048576 := by omega
  refine ⟨by simp, ?_⟩
  rw [Try.results175]
  repeat' first
    | (refine And.intro ?_ ?_)
    | (intro h; cases h)
    | (intro h; rw [h])
    | (intro h)
  all_goals first
    | (show lowEdges _ = true; kernel_rfl) | (show logOk _ _ = true; kernel_rfl) | trivial | exact Or.inr rfl | exact Or.inl rfl
    | rfl
    | (simp only [Ty.bytes]; omega)
    | omega
    | skip
  refine awp_loop (Q := _) [0, 3, 4] [] (fun n s => ∃ i : Int, s = ([argS 218 a, .val false [.sl true 172 (fill a ([.l 3, .l 192].map zeroD) i.toNat)], .val false [.i .i64 i]], []) ∧ 0 ≤ i ∧ i ≤ a.length ∧ n = a.length - i.toNat) ?_ ?_
  · exact ⟨rfl, a.length - 0, 0, congrArg (fun z => (([argS 218 a, .val false [.sl true 172 z], .val false [.i .i64 0]], []) : Snap)) (fill_zero a _).symm, by omega, by omega, rfl⟩
  rintro n s ⟨i, rfl, h1, h2, h3⟩
  repeat' first
    | (refine And.intro ?_ ?_)
    | (intro h; cases h)
    | (intro h; rw [h])
    | (intro h)
  all_goals first
    | (show lowEdges _ = true; kernel_rfl) | (show logOk _ _ = true; kernel_rfl) | trivial | exact Or.inr rfl | exact Or.inl rfl
    | omega
    | exact of_decide_eq_true ‹_›
    | (have := of_decide_eq_true ‹decide (i < (a.length : Int)) = true›; rw [fill_length (by omega)]; omega)
    | exact congrArg (fun z => [CV.sl false 172 z]) (fill_all h1 h2 ‹_›)
    | (have hi : i < (a.length : Int) := of_decide_eq_true ‹_›
       have hk : i.toNat < a.length := by omega
       have wr : WfRow T [.l 3, .l 228] (a.getD i.toNat []) := wa.row rfl hk
       have hwr := wRow_le hk
       first
         | exact ⟨_, wr, by rw [wRow_rowC wr]; omega, rfl⟩
         | exact ⟨_, wr, Nat.lt_of_lt_of_le (size_row hk) (Nat.le_of_lt_succ hs), by rw [wRow_rowC wr]; omega, rfl⟩
         | (refine ⟨a.length - (i + 1).toNat, by omega, i + 1, ?_, by omega, by omega, rfl⟩
            have e1 := fill_next (z := ([.l 3, .l 192].map zeroD)) h1 hi (by rw [csD_rowC wr, wr.1]; rfl) (csD_rowC wr)
            have e2 : IntKind.i64.wrap (i + 1) = i + 1 := wrap_next h1 hi (Nat.le_trans la (by decide))
            exact (congrArg (fun z => (([argS 218 a, .val false [.sl true 172 z], .val false [.i .i64 (IntKind.i64.wrap (i + 1))]], []) : Snap)) e1).trans (congrArg (fun z => (([argS 218 a, .val false [.sl true 172 (fill a ([.l 3, .l 192].map zeroD) (i + 1).toNat)], .val false [.i .i64 z]], []) : Snap)) e2)))
/-- laws.toValue -/
theorem step148 (n : Nat) (hn : FOk Try.prog T 173 (toSn 142 76 n)) : FOk Try.prog T 148 (toGn T [.i .i64, .i .i64, .i .i64, .s, .l 142, .l 9, .l 218] [.i .i64, .i .i64, .i .i64, .s, .l 76, .l 9, .l 172] (n + 1)) := by
  refine fok (env := envL [(173, (toSn 142 76 n)), (174, (toS 9 9)), (175, (toS 218 172))]) (N := 29) tabT (envL_cons hn (envL_cons ok174 (envL_cons ok175 envL_nil))) mixed Try.func148 rfl Try.call148 Try.ntmps148 ?_
  rintro args ⟨a, wa, hs, hw, rfl⟩ hwf
  refine ⟨by simp, ?_⟩
  clear hwf
  rw [Try.results148]
  repeat' first
    | (refine And.intro ?_ ?_)
    | (intro h; cases h)
    | (intro h; rw [h])
    | (intro h)
  all_goals first
    | (show lowEdges _ = true; kernel_rfl) | (show logOk _ _ = true; kernel_rfl) | trivial | exact Or.inr rfl | exact Or.inl rfl
    | exact ⟨_, Nat.lt_of_lt_of_le (size_cell (by rw [wa.1]; decide)) (Nat.le_of_lt_succ hs), by first | omega | (clear wa; simp only [csD, CV.d, rowC, ofD, argG, List.zipIdx, List.map, wRow, wD, sub, List.range, List.range.loop, List.getD_cons_zero, List.getD_cons_succ, Nat.reduceAdd] at hw ⊢; done) | (clear wa; simp only [csD, CV.d, rowC, ofD, argG, List.zipIdx, List.map, wRow, wD, sub, List.range, List.range.loop, List.getD_cons_zero, List.getD_cons_succ, Nat.reduceAdd] at hw ⊢; omega), rfl⟩
    | exact ⟨_, by first | omega | (clear wa; simp only [csD, CV.d, rowC, ofD, argG, List.zipIdx, List.map, wRow, wD, sub, List.range, List.range.loop, List.getD_cons_zero, List.getD_cons_succ, Nat.reduceAdd] at hw ⊢; done) | (clear wa; simp only [csD, CV.d, rowC, ofD, argG, List.zipIdx, List.map, wRow, wD, sub, List.range, List.range.loop, List.getD_cons_zero, List.getD_cons_succ, Nat.reduceAdd] at hw ⊢; omega), rfl⟩
    | exact ⟨sub a 0 1, wa.sub 0 1 (by decide), by first | omega | (clear wa; simp only [csD, CV.d, rowC, ofD, argG, List.zipIdx, List.map, wRow, wD, sub, List.range, List.range.loop, List.getD_cons_zero, List.getD_cons_succ, Nat.reduceAdd] at hw ⊢; done) | (clear wa; simp only [csD, CV.d, rowC, ofD, argG, List.zipIdx, List.map, wRow, wD, sub, List.range, List.range.loop, List.getD_cons_zero, List.getD_cons_succ, Nat.reduceAdd] at hw ⊢; omega), rfl⟩
    | exact ⟨sub a 1 1, wa.sub 1 1 (by decide), by first | omega | (clear wa; simp only [csD, CV.d, rowC, ofD, argG, List.zipIdx, List.map, wRow, wD, sub, List.range, List.range.loop, List.getD_cons_zero, List.getD_cons_succ, Nat.reduceAdd] at hw ⊢; done) | (clear wa; simp only [csD, CV.d, rowC, ofD, argG, List.zipIdx, List.map, wRow, wD, sub, List.range, List.range.loop, List.getD_cons_zero, List.getD_cons_succ, Nat.reduceAdd] at hw ⊢; omega), rfl⟩
    | exact ⟨sub a 2 1, wa.sub 2 1 (by decide), by first | omega | (clear wa; simp only [csD, CV.d, rowC, ofD, argG, List.zipIdx, List.map, wRow, wD, sub, List.range, List.range.loop, List.getD_cons_zero, List.getD_cons_succ, Nat.reduceAdd] at hw ⊢; done) | (clear wa; simp only [csD, CV.d, rowC, ofD, argG, List.zipIdx, List.map, wRow, wD, sub, List.range, List.range.loop, List.getD_cons_zero, List.getD_cons_succ, Nat.reduceAdd] at hw ⊢; omega), rfl⟩
    | exact ⟨sub a 3 1, wa.sub 3 1 (by decide), by first | omega | (clear wa; simp only [csD, CV.d, rowC, ofD, argG, List.zipIdx, List.map, wRow, wD, sub, List.range, List.range.loop, List.getD_cons_zero, List.getD_cons_succ, Nat.reduceAdd] at hw ⊢; done) | (clear wa; simp only [csD, CV.d, rowC, ofD, argG, List.zipIdx, List.map, wRow, wD, sub, List.range, List.range.loop, List.getD_cons_zero, List.getD_cons_succ, Nat.reduceAdd] at hw ⊢; omega), rfl⟩
    | exact ⟨sub a 4 1, wa.sub 4 1 (by decide), by first | omega | (clear wa; simp only [csD, CV.d, rowC, ofD, argG, List.zipIdx, List.map, wRow, wD, sub, List.range, List.range.loop, List.getD_cons_zero, List.getD_cons_succ, Nat.reduceAdd] at hw ⊢; done) | (clear wa; simp only [csD, CV.d, rowC, ofD, argG, List.zipIdx, List.map, wRow, wD, sub, List.range, List.range.loop, List.getD_cons_zero, List.getD_cons_succ, Nat.reduceAdd] at hw ⊢; omega), rfl⟩
    | exact ⟨sub a 5 1, wa.sub 5 1 (by decide), by first | omega | (clear wa; simp only [csD, CV.d, rowC, ofD, argG, List.zipIdx, List.map, wRow, wD, sub, List.range, List.range.loop, List.getD_cons_zero, List.getD_cons_succ, Nat.reduceAdd] at hw ⊢; done) | (clear wa; simp only [csD, CV.d, rowC, ofD, argG, List.zipIdx, List.map, wRow, wD, sub, List.range, List.range.loop, List.getD_cons_zero, List.getD_cons_succ, Nat.reduceAdd] at hw ⊢; omega), rfl⟩
    | exact ⟨sub a 6 1, wa.sub 6 1 (by decide), by first | omega | (clear wa; simp only [csD, CV.d, rowC, ofD, argG, List.zipIdx, List.map, wRow, wD, sub, List.range, List.range.loop, List.getD_cons_zero, List.getD_cons_succ, Nat.reduceAdd] at hw ⊢; done) | (clear wa; simp only [csD, CV.d, rowC, ofD, argG, List.zipIdx, List.map, wRow, wD, sub, List.range, List.range.loop, List.getD_cons_zero, List.getD_cons_succ, Nat.reduceAdd] at hw ⊢; omega), rfl⟩
    | rfl
/-- laws.toValueS -/
theorem step173 (n : Nat) (hn : FOk Try.prog T 148 (toGn T [.i .i64, .i .i64, .i .i64, .s, .l 142, .l 9, .l 218] [.i .i64, .i .i64, .i .i64, .s, .l 76, .l 9, .l 172] n)) : FOk Try.prog T 173 (toSn 142 76 (n + 1)) := by
  refine fok (env := envL [(148, (toGn T [.i .i64, .i .i64, .i .i64, .s, .l 142, .l 9, .l 218] [.i .i64, .i .i64, .i .i64, .s, .l 76, .l 9, .l 172] n))]) (N := 23) tabT (envL_cons hn envL_nil) mixed Try.func173 rfl Try.call173 Try.ntmps173 ?_
  rintro args ⟨a, hs, hw, rfl⟩ hwf
  have wa : WfD T (.l 142) (.l a) := arg0 hwf (List.mem_singleton_self _)
  clear hwf
  have la : a.length ≤ 1048576 := by omega
  refine ⟨by simp, ?_⟩
  rw [Try.results173]
  repeat' first
    | (refine And.intro ?_ ?_)
    | (intro h; cases h)
    | (intro h; rw [h])
    | (intro h)
  all_goals first
    | (show lowEdges _ = true; kernel_rfl) | (show logOk _ _ = true; kernel_rfl) | trivial | exact Or.inr rfl | exact Or.inl rfl
    | rfl
    | (simp only [Ty.bytes]; omega)
    | omega
    | skip
  refine awp_loop (Q := _) [0, 3, 4] [] (fun n s => ∃ i : Int, s = ([argS 142 a, .val false [.sl true 76 (fill a ([.i .i64, .i .i64, .i .i64, .s, .l 76, .l 9, .l 172].map zeroD) i.toNat)], .val false [.i .i64 i]], []) ∧ 0 ≤ i ∧ i ≤ a.length ∧ n = a.length - i.toNat) ?_ ?_
  · exact ⟨rfl, a.length - 0, 0, congrArg (fun z => (([argS 142 a, .val false [.sl true 76 z], .val false [.i .i64 0]], []) : Snap)) (fill_zero a _).symm, by omega, by omega, rfl⟩
  rintro n s ⟨i, rfl, h1, h2, h3⟩
  repeat' first
    | (refine And.intro ?_ ?_)
    | (intro h; cases h)
    | (intro h; rw [h])
    | (intro h)
  all_goals first
    | (show lowEdges _ = true; kernel_rfl) | (show logOk _ _ = true; kernel_rfl) | trivial | exact Or.inr rfl | exact Or.inl rfl
    | omega
    | exact of_decide_eq_true ‹_›
    | (have := of_decide_eq_true ‹decide (i < (a.length : Int)) = true›; rw [fill_length (by omega)]; omega)
    | exact congrArg (fun z => [CV.sl false 76 z]) (fill_all h1 h2 ‹_›)
    | (have hi : i < (a.length : Int) := of_decide_eq_true ‹_›
       have hk : i.toNat < a.length := by omega
       have wr : WfRow T [.i .i64, .i .i64, .i .i64, .s, .l 142, .l 9, .l 218] (a.getD i.toNat []) := wa.row rfl hk
       have hwr := wRow_le hk
       first
         | exact ⟨_, wr, by rw [wRow_rowC wr]; omega, rfl⟩
         | exact ⟨_, wr, Nat.lt_of_lt_of_le (size_row hk) (Nat.le_of_lt_succ hs), by rw [wRow_rowC wr]; omega, rfl⟩
         | (refine ⟨a.length - (i + 1).toNat, by omega, i + 1, ?_, by omega, by omega, rfl⟩
            have e1 := fill_next (z := ([.i .i64, .i .i64, .i .i64, .s, .l 76, .l 9, .l 172].map zeroD)) h1 hi (by rw [csD_rowC wr, wr.1]; rfl) (csD_rowC wr)
            have e2 : IntKind.i64.wrap (i + 1) = i + 1 := wrap_next h1 hi (Nat.le_trans la (by decide))
            exact (congrArg (fun z => (([argS 142 a, .val false [.sl true 76 z], .val false [.i .i64 (IntKind.i64.wrap (i + 1))]], []) : Snap)) e1).trans (congrArg (fun z => (([argS 142 a, .val false [.sl true 76 (fill a ([.i .i64, .i .i64, .i .i64, .s, .l 76, .l 9, .l 172].map zeroD) (i + 1).toNat)], .val false [.i .i64 z]], []) : Snap)) e2)))
theorem zero148 : FOk Try.prog T 148 (toGn T [.i .i64, .i .i64, .i .i64, .s, .l 142, .l 9, .l 218] [.i .i64, .i .i64, .i .i64, .s, .l 76, .l 9, .l 172] 0) := by
  refine fok (env := envL []) (N := 29) tabT envL_nil mixed Try.func148 rfl Try.call148 Try.ntmps148 ?_
  rintro args ⟨a, wa, hs, hw, rfl⟩ _
  exact absurd hs (Nat.not_lt_zero _)
theorem zero173 : FOk Try.prog T 173 (toSn 142 76 0) := by
  refine fok (env := envL []) (N := 23) tabT envL_nil mixed Try.func173 rfl Try.call173 Try.ntmps173 ?_
  rintro args ⟨a, hs, hw, rfl⟩ _
  exact absurd hs (Nat.not_lt_zero _)
theorem both148 (n : Nat) : FOk Try.prog T 148 (toGn T [.i .i64, .i .i64, .i .i64, .s, .l 142, .l 9, .l 218] [.i .i64, .i .i64, .i .i64, .s, .l 76, .l 9, .l 172] n) ∧ FOk Try.prog T 173 (toSn 142 76 n) := by
  induction n with
  | zero => exact ⟨zero148, zero173⟩
  | succ n ih => exact ⟨step148 n ih.2, step173 n ih.1⟩
theorem ok148 : FOk Try.prog T 148 (toG T [.i .i64, .i .i64, .i .i64, .s, .l 142, .l 9, .l 218] [.i .i64, .i .i64, .i .i64, .s, .l 76, .l 9, .l 172]) := FOk.lift (s := fun n => (toGn T [.i .i64, .i .i64, .i .i64, .s, .l 142, .l 9, .l 218] [.i .i64, .i .i64, .i .i64, .s, .l 76, .l 9, .l 172] n)) (fun n => (both148 n).1) (fun args ⟨a, wa, hw, h⟩ => ⟨SizeOf.sizeOf a + 1, a, wa, Nat.lt_succ_self _, hw, h⟩) (fun n => rfl)
theorem ok173 : FOk Try.prog T 173 (toS 142 76) := FOk.lift (s := fun n => (toSn 142 76 n)) (fun n => (both148 n).2) (fun args ⟨a, hw, h⟩ => ⟨SizeOf.sizeOf a + 1, a, Nat.lt_succ_self _, hw, h⟩) (fun n => rfl)
/-- laws.toRead -/
theorem ok133 : FOk Try.prog T 133 (toG T [.i .i64, .i .i64, .i .i64, .s, .i .i64, .i .i64, .i .i64, .s, .l 142, .l 9, .l 218] [.i .i64, .i .i64, .i .i64, .s, .i .i64, .i .i64, .i .i64, .s, .l 76, .l 9, .l 172]) := by
  refine fok (env := envL [(148, (toG T [.i .i64, .i .i64, .i .i64, .s, .l 142, .l 9, .l 218] [.i .i64, .i .i64, .i .i64, .s, .l 76, .l 9, .l 172]))]) (N := 21) tabT (envL_cons ok148 envL_nil) mixed Try.func133 rfl Try.call133 Try.ntmps133 ?_
  rintro args ⟨a, wa, hw, rfl⟩ hwf
  refine ⟨by simp, ?_⟩
  clear hwf
  rw [Try.results133]
  repeat' first
    | (refine And.intro ?_ ?_)
    | (intro h; cases h)
    | (intro h; rw [h])
    | (intro h)
  all_goals first
    | (show lowEdges _ = true; kernel_rfl) | (show logOk _ _ = true; kernel_rfl) | trivial | exact Or.inr rfl | exact Or.inl rfl
    | exact ⟨_, Nat.lt_of_lt_of_le (size_cell (by rw [wa.1]; decide)) (Nat.le_of_lt_succ hs), by first | omega | (clear wa; simp only [csD, CV.d, rowC, ofD, argG, List.zipIdx, List.map, wRow, wD, sub, List.range, List.range.loop, List.getD_cons_zero, List.getD_cons_succ, Nat.reduceAdd] at hw ⊢; done) | (clear wa; simp only [csD, CV.d, rowC, ofD, argG, List.zipIdx, List.map, wRow, wD, sub, List.range, List.range.loop, List.getD_cons_zero, List.getD_cons_succ, Nat.reduceAdd] at hw ⊢; omega), rfl⟩
    | exact ⟨_, by first | omega | (clear wa; simp only [csD, CV.d, rowC, ofD, argG, List.zipIdx, List.map, wRow, wD, sub, List.range, List.range.loop, List.getD_cons_zero, List.getD_cons_succ, Nat.reduceAdd] at hw ⊢; done) | (clear wa; simp only [csD, CV.d, rowC, ofD, argG, List.zipIdx, List.map, wRow, wD, sub, List.range, List.range.loop, List.getD_cons_zero, List.getD_cons_succ, Nat.reduceAdd] at hw ⊢; omega), rfl⟩
    | exact ⟨sub a 4 7, wa.sub 4 7 (by decide), by first | omega | (clear wa; simp only [csD, CV.d, rowC, ofD, argG, List.zipIdx, List.map, wRow, wD, sub, List.range, List.range.loop, List.getD_cons_zero, List.getD_cons_succ, Nat.reduceAdd] at hw ⊢; done) | (clear wa; simp only [csD, CV.d, rowC, ofD, argG, List.zipIdx, List.map, wRow, wD, sub, List.range, List.range.loop, List.getD_cons_zero, List.getD_cons_succ, Nat.reduceAdd] at hw ⊢; omega), rfl⟩
    | exact ⟨sub a 0 1, wa.sub 0 1 (by decide), by first | omega | (clear wa; simp only [csD, CV.d, rowC, ofD, argG, List.zipIdx, List.map, wRow, wD, sub, List.range, List.range.loop, List.getD_cons_zero, List.getD_cons_succ, Nat.reduceAdd] at hw ⊢; done) | (clear wa; simp only [csD, CV.d, rowC, ofD, argG, List.zipIdx, List.map, wRow, wD, sub, List.range, List.range.loop, List.getD_cons_zero, List.getD_cons_succ, Nat.reduceAdd] at hw ⊢; omega), rfl⟩
    | exact ⟨sub a 1 1, wa.sub 1 1 (by decide), by first | omega | (clear wa; simp only [csD, CV.d, rowC, ofD, argG, List.zipIdx, List.map, wRow, wD, sub, List.range, List.range.loop, List.getD_cons_zero, List.getD_cons_succ, Nat.reduceAdd] at hw ⊢; done) | (clear wa; simp only [csD, CV.d, rowC, ofD, argG, List.zipIdx, List.map, wRow, wD, sub, List.range, List.range.loop, List.getD_cons_zero, List.getD_cons_succ, Nat.reduceAdd] at hw ⊢; omega), rfl⟩
    | exact ⟨sub a 2 1, wa.sub 2 1 (by decide), by first | omega | (clear wa; simp only [csD, CV.d, rowC, ofD, argG, List.zipIdx, List.map, wRow, wD, sub, List.range, List.range.loop, List.getD_cons_zero, List.getD_cons_succ, Nat.reduceAdd] at hw ⊢; done) | (clear wa; simp only [csD, CV.d, rowC, ofD, argG, List.zipIdx, List.map, wRow, wD, sub, List.range, List.range.loop, List.getD_cons_zero, List.getD_cons_succ, Nat.reduceAdd] at hw ⊢; omega), rfl⟩
    | exact ⟨sub a 3 1, wa.sub 3 1 (by decide), by first | omega | (clear wa; simp only [csD, CV.d, rowC, ofD, argG, List.zipIdx, List.map, wRow, wD, sub, List.range, List.range.loop, List.getD_cons_zero, List.getD_cons_succ, Nat.reduceAdd] at hw ⊢; done) | (clear wa; simp only [csD, CV.d, rowC, ofD, argG, List.zipIdx, List.map, wRow, wD, sub, List.range, List.range.loop, List.getD_cons_zero, List.getD_cons_succ, Nat.reduceAdd] at hw ⊢; omega), rfl⟩
    | rfl
/-- laws.toReadS -/
theorem ok84 : FOk Try.prog T 84 (toS 176 78) := by
  refine fok (env := envL [(133, (toG T [.i .i64, .i .i64, .i .i64, .s, .i .i64, .i .i64, .i .i64, .s, .l 142, .l 9, .l 218] [.i .i64, .i .i64, .i .i64, .s, .i .i64, .i .i64, .i .i64, .s, .l 76, .l 9, .l 172]))]) (N := 23) tabT (envL_cons ok133 envL_nil) mixed Try.func84 rfl Try.call84 Try.ntmps84 ?_
  rintro args ⟨a, hw, rfl⟩ hwf
  have wa : WfD T (.l 176) (.l a) := arg0 hwf (List.mem_singleton_self _)
  clear hwf
  have la : a.length ≤ 1048576 := by omega
  refine ⟨by simp, ?_⟩
  rw [Try.results84]
  repeat' first
    | (refine And.intro ?_ ?_)
    | (intro h; cases h)
    | (intro h; rw [h])
    | (intro h)
  all_goals first
    | (show lowEdges _ = true; kernel_rfl) | (show logOk _ _ = true; kernel_rfl) | trivial | exact Or.inr rfl | exact Or.inl rfl
    | rfl
    | (simp only [Ty.bytes]; omega)
    | omega
    | skip
  refine awp_loop (Q := _) [0, 3, 4] [] (fun n s => ∃ i : Int, s = ([argS 176 a, .val false [.sl true 78 (fill a ([.i .i64, .i .i64, .i .i64, .s, .i .i64, .i .i64, .i .i64, .s, .l 76, .l 9, .l 172].map zeroD) i.toNat)], .val false [.i .i64 i]], []) ∧ 0 ≤ i ∧ i ≤ a.length ∧ n = a.length - i.toNat) ?_ ?_
  · exact ⟨rfl, a.length - 0, 0, congrArg (fun z => (([argS 176 a, .val false [.sl true 78 z], .val false [.i .i64 0]], []) : Snap)) (fill_zero a _).symm, by omega, by omega, rfl⟩
  rintro n s ⟨i, rfl, h1, h2, h3⟩
  repeat' first
    | (refine And.intro ?_ ?_)
    | (intro h; cases h)
    | (intro h; rw [h])
    | (intro h)
  all_goals first
    | (show lowEdges _ = true; kernel_rfl) | (show logOk _ _ = true; kernel_rfl) | trivial | exact Or.inr rfl | exact Or.inl rfl
    | omega
    | exact of_decide_eq_true ‹_›
    | (have := of_decide_eq_true ‹decide (i < (a.length : Int)) = true›; rw [fill_length (by omega)]; omega)
    | exact congrArg (fun z => [CV.sl false 78 z]) (fill_all h1 h2 ‹_›)
    | (have hi : i < (a.length : Int) := of_decide_eq_true ‹_›
       have hk : i.toNat < a.length := by omega
       have wr : WfRow T [.i .i64, .i .i64, .i .i64, .s, .i .i64, .i .i64, .i .i64, .s, .l 142, .l 9, .l 218] (a.getD i.toNat []) := wa.row rfl hk
       have hwr := wRow_le hk
       first
         | exact ⟨_, wr, by rw [wRow_rowC wr]; omega, rfl⟩
         | exact ⟨_, wr, Nat.lt_of_lt_of_le (size_row hk) (Nat.le_of_lt_succ hs), by rw [wRow_rowC wr]; omega, rfl⟩
         | (refine ⟨a.length - (i + 1).toNat, by omega, i + 1, ?_, by omega, by omega, rfl⟩
            have e1 := fill_next (z := ([.i .i64, .i .i64, .i .i64, .s, .i .i64, .i .i64, .i .i64, .s, .l 76, .l 9, .l 172].map zeroD)) h1 hi (by rw [csD_rowC wr, wr.1]; rfl) (csD_rowC wr)
            have e2 : IntKind.i64.wrap (i + 1) = i + 1 := wrap_next h1 hi (Nat.le_trans la (by decide))
            exact (congrArg (fun z => (([argS 176 a, .val false [.sl true 78 z], .val false [.i .i64 (IntKind.i64.wrap (i + 1))]], []) : Snap)) e1).trans (congrArg (fun z => (([argS 176 a, .val false [.sl true 78 (fill a ([.i .i64, .i .i64, .i .i64, .s, .i .i64, .i .i64, .i .i64, .s, .l 76, .l 9, .l 172].map zeroD) (i + 1).toNat)], .val false [.i .i64 z]], []) : Snap)) e2)))
/-- laws.toTape -/
theorem ok42 : FOk Try.prog T 42 (toG T [.i .i64, .i .i64, .l 176] [.i .i64, .i .i64, .l 78]) := by
  refine fok (env := envL [(84, (toS 176 78))]) (N := 15) tabT (envL_cons ok84 envL_nil) mixed Try.func42 rfl Try.call42 Try.ntmps42 ?_
  rintro args ⟨a, wa, hw, rfl⟩ hwf
  refine ⟨by simp, ?_⟩
  clear hwf
  rw [Try.results42]
  repeat' first
    | (refine And.intro ?_ ?_)
    | (intro h; cases h)
    | (intro h; rw [h])
    | (intro h)
  all_goals first
    | (show lowEdges _ = true; kernel_rfl) | (show logOk _ _ = true; kernel_rfl) | trivial | exact Or.inr rfl | exact Or.inl rfl
    | exact ⟨_, Nat.lt_of_lt_of_le (size_cell (by rw [wa.1]; decide)) (Nat.le_of_lt_succ hs), by first | omega | (clear wa; simp only [csD, CV.d, rowC, ofD, argG, List.zipIdx, List.map, wRow, wD, sub, List.range, List.range.loop, List.getD_cons_zero, List.getD_cons_succ, Nat.reduceAdd] at hw ⊢; done) | (clear wa; simp only [csD, CV.d, rowC, ofD, argG, List.zipIdx, List.map, wRow, wD, sub, List.range, List.range.loop, List.getD_cons_zero, List.getD_cons_succ, Nat.reduceAdd] at hw ⊢; omega), rfl⟩
    | exact ⟨_, by first | omega | (clear wa; simp only [csD, CV.d, rowC, ofD, argG, List.zipIdx, List.map, wRow, wD, sub, List.range, List.range.loop, List.getD_cons_zero, List.getD_cons_succ, Nat.reduceAdd] at hw ⊢; done) | (clear wa; simp only [csD, CV.d, rowC, ofD, argG, List.zipIdx, List.map, wRow, wD, sub, List.range, List.range.loop, List.getD_cons_zero, List.getD_cons_succ, Nat.reduceAdd] at hw ⊢; omega), rfl⟩
    | exact ⟨sub a 0 1, wa.sub 0 1 (by decide), by first | omega | (clear wa; simp only [csD, CV.d, rowC, ofD, argG, List.zipIdx, List.map, wRow, wD, sub, List.range, List.range.loop, List.getD_cons_zero, List.getD_cons_succ, Nat.reduceAdd] at hw ⊢; done) | (clear wa; simp only [csD, CV.d, rowC, ofD, argG, List.zipIdx, List.map, wRow, wD, sub, List.range, List.range.loop, List.getD_cons_zero, List.getD_cons_succ, Nat.reduceAdd] at hw ⊢; omega), rfl⟩
    | exact ⟨sub a 1 1, wa.sub 1 1 (by decide), by first | omega | (clear wa; simp only [csD, CV.d, rowC, ofD, argG, List.zipIdx, List.map, wRow, wD, sub, List.range, List.range.loop, List.getD_cons_zero, List.getD_cons_succ, Nat.reduceAdd] at hw ⊢; done) | (clear wa; simp only [csD, CV.d, rowC, ofD, argG, List.zipIdx, List.map, wRow, wD, sub, List.range, List.range.loop, List.getD_cons_zero, List.getD_cons_succ, Nat.reduceAdd] at hw ⊢; omega), rfl⟩
    | exact ⟨sub a 2 1, wa.sub 2 1 (by decide), by first | omega | (clear wa; simp only [csD, CV.d, rowC, ofD, argG, List.zipIdx, List.map, wRow, wD, sub, List.range, List.range.loop, List.getD_cons_zero, List.getD_cons_succ, Nat.reduceAdd] at hw ⊢; done) | (clear wa; simp only [csD, CV.d, rowC, ofD, argG, List.zipIdx, List.map, wRow, wD, sub, List.range, List.range.loop, List.getD_cons_zero, List.getD_cons_succ, Nat.reduceAdd] at hw ⊢; omega), rfl⟩
    | rfl
/-- laws.toTapeS -/
theorem ok14 : FOk Try.prog T 14 (toS 95 32) := by
  refine fok (env := envL [(42, (toG T [.i .i64, .i .i64, .l 176] [.i .i64, .i .i64, .l 78]))]) (N := 23) tabT (envL_cons ok42 envL_nil) mixed Try.func14 rfl Try.call14 Try.ntmps14 ?_
  rintro args ⟨a, hw, rfl⟩ hwf
  have wa : WfD T (.l 95) (.l a) := arg0 hwf (List.mem_singleton_self _)
  clear hwf
  have la : a.length ≤ 1048576 := by omega
  refine ⟨by simp, ?_⟩
  rw [Try.results14]
  repeat' first
    | (refine And.intro ?_ ?_)
    | (intro h; cases h)
    | (intro h; rw [h])
    | (intro h)
  all_goals first
    | (show lowEdges _ = true; kernel_rfl) | (show logOk _ _ = true; kernel_rfl) | trivial | exact Or.inr rfl | exact Or.inl rfl
    | rfl
    | (simp only [Ty.bytes]; omega)
    | omega
    | skip
  refine awp_loop (Q := _) [0, 3, 4] [] (fun n s => ∃ i : Int, s = ([argS 95 a, .val false [.sl true 32 (fill a ([.i .i64, .i .i64, .l 78].map zeroD) i.toNat)], .val false [.i .i64 i]], []) ∧ 0 ≤ i ∧ i ≤ a.length ∧ n = a.length - i.toNat) ?_ ?_
  · exact ⟨rfl, a.length - 0, 0, congrArg (fun z => (([argS 95 a, .val false [.sl true 32 z], .val false [.i .i64 0]], []) : Snap)) (fill_zero a _).symm, by omega, by omega, rfl⟩
  rintro n s ⟨i, rfl, h1, h2, h3⟩
  repeat' first
    | (refine And.intro ?_ ?_)
    | (intro h; cases h)
    | (intro h; rw [h])
    | (intro h)
  all_goals first
    | (show lowEdges _ = true; kernel_rfl) | (show logOk _ _ = true; kernel_rfl) | trivial | exact Or.inr rfl | exact Or.inl rfl
    | omega
    | exact of_decide_eq_true ‹_›
    | (have := of_decide_eq_true ‹decide (i < (a.length : Int)) = true›; rw [fill_length (by omega)]; omega)
    | exact congrArg (fun z => [CV.sl false 32 z]) (fill_all h1 h2 ‹_›)
    | (have hi : i < (a.length : Int) := of_decide_eq_true ‹_›
       have hk : i.toNat < a.length := by omega
       have wr : WfRow T [.i .i64, .i .i64, .l 176] (a.getD i.toNat []) := wa.row rfl hk
       have hwr := wRow_le hk
       first
         | exact ⟨_, wr, by rw [wRow_rowC wr]; omega, rfl⟩
         | exact ⟨_, wr, Nat.lt_of_lt_of_le (size_row hk) (Nat.le_of_lt_succ hs), by rw [wRow_rowC wr]; omega, rfl⟩
         | (refine ⟨a.length - (i + 1).toNat, by omega, i + 1, ?_, by omega, by omega, rfl⟩
            have e1 := fill_next (z := ([.i .i64, .i .i64, .l 78].map zeroD)) h1 hi (by rw [csD_rowC wr, wr.1]; rfl) (csD_rowC wr)
            have e2 : IntKind.i64.wrap (i + 1) = i + 1 := wrap_next h1 hi (Nat.le_trans la (by decide))
            exact (congrArg (fun z => (([argS 95 a, .val false [.sl true 32 z], .val false [.i .i64 (IntKind.i64.wrap (i + 1))]], []) : Snap)) e1).trans (congrArg (fun z => (([argS 95 a, .val false [.sl true 32 (fill a ([.i .i64, .i .i64, .l 78].map zeroD) (i + 1).toNat)], .val false [.i .i64 z]], []) : Snap)) e2)))
/-- laws.toEntry -/
theorem ok100 : FOk Try.prog T 100 (toG T [.i .i64, .i .i64, .i .i64, .l 3, .i .i64, .i .i64, .i .i64, .s, .l 142, .l 9, .l 218, .b] [.i .i64, .i .i64, .i .i64, .l 3, .i .i64, .i .i64, .i .i64, .s, .l 76, .l 9, .l 172, .b]) := by
  refine fok (env := envL [(147, (toS 3 3)), (148, (toG T [.i .i64, .i .i64, .i .i64, .s, .l 142, .l 9, .l 218] [.i .i64, .i .i64, .i .i64, .s, .l 76, .l 9, .l 172]))]) (N := 25) tabT (envL_cons ok147 (envL_cons ok148 envL_nil)) mixed Try.func100 rfl Try.call100 Try.ntmps100 ?_
  rintro args ⟨a, wa, hw, rfl⟩ hwf
  refine ⟨by simp, ?_⟩
  clear hwf
  rw [Try.results100]
  repeat' first
    | (refine And.intro ?_ ?_)
    | (intro h; cases h)
    | (intro h; rw [h])
    | (intro h)
  all_goals first
    | (show lowEdges _ = true; kernel_rfl) | (show logOk _ _ = true; kernel_rfl) | trivial | exact Or.inr rfl | exact Or.inl rfl
    | exact ⟨_, Nat.lt_of_lt_of_le (size_cell (by rw [wa.1]; decide)) (Nat.le_of_lt_succ hs), by first | omega | (clear wa; simp only [csD, CV.d, rowC, ofD, argG, List.zipIdx, List.map, wRow, wD, sub, List.range, List.range.loop, List.getD_cons_zero, List.getD_cons_succ, Nat.reduceAdd] at hw ⊢; done) | (clear wa; simp only [csD, CV.d, rowC, ofD, argG, List.zipIdx, List.map, wRow, wD, sub, List.range, List.range.loop, List.getD_cons_zero, List.getD_cons_succ, Nat.reduceAdd] at hw ⊢; omega), rfl⟩
    | exact ⟨_, by first | omega | (clear wa; simp only [csD, CV.d, rowC, ofD, argG, List.zipIdx, List.map, wRow, wD, sub, List.range, List.range.loop, List.getD_cons_zero, List.getD_cons_succ, Nat.reduceAdd] at hw ⊢; done) | (clear wa; simp only [csD, CV.d, rowC, ofD, argG, List.zipIdx, List.map, wRow, wD, sub, List.range, List.range.loop, List.getD_cons_zero, List.getD_cons_succ, Nat.reduceAdd] at hw ⊢; omega), rfl⟩
    | exact ⟨sub a 4 7, wa.sub 4 7 (by decide), by first | omega | (clear wa; simp only [csD, CV.d, rowC, ofD, argG, List.zipIdx, List.map, wRow, wD, sub, List.range, List.range.loop, List.getD_cons_zero, List.getD_cons_succ, Nat.reduceAdd] at hw ⊢; done) | (clear wa; simp only [csD, CV.d, rowC, ofD, argG, List.zipIdx, List.map, wRow, wD, sub, List.range, List.range.loop, List.getD_cons_zero, List.getD_cons_succ, Nat.reduceAdd] at hw ⊢; omega), rfl⟩
    | exact ⟨sub a 0 1, wa.sub 0 1 (by decide), by first | omega | (clear wa; simp only [csD, CV.d, rowC, ofD, argG, List.zipIdx, List.map, wRow, wD, sub, List.range, List.range.loop, List.getD_cons_zero, List.getD_cons_succ, Nat.reduceAdd] at hw ⊢; done) | (clear wa; simp only [csD, CV.d, rowC, ofD, argG, List.zipIdx, List.map, wRow, wD, sub, List.range, List.range.loop, List.getD_cons_zero, List.getD_cons_succ, Nat.reduceAdd] at hw ⊢; omega), rfl⟩
    | exact ⟨sub a 1 1, wa.sub 1 1 (by decide), by first | omega | (clear wa; simp only [csD, CV.d, rowC, ofD, argG, List.zipIdx, List.map, wRow, wD, sub, List.range, List.range.loop, List.getD_cons_zero, List.getD_cons_succ, Nat.reduceAdd] at hw ⊢; done) | (clear wa; simp only [csD, CV.d, rowC, ofD, argG, List.zipIdx, List.map, wRow, wD, sub, List.range, List.range.loop, List.getD_cons_zero, List.getD_cons_succ, Nat.reduceAdd] at hw ⊢; omega), rfl⟩
    | exact ⟨sub a 2 1, wa.sub 2 1 (by decide), by first | omega | (clear wa; simp only [csD, CV.d, rowC, ofD, argG, List.zipIdx, List.map, wRow, wD, sub, List.range, List.range.loop, List.getD_cons_zero, List.getD_cons_succ, Nat.reduceAdd] at hw ⊢; done) | (clear wa; simp only [csD, CV.d, rowC, ofD, argG, List.zipIdx, List.map, wRow, wD, sub, List.range, List.range.loop, List.getD_cons_zero, List.getD_cons_succ, Nat.reduceAdd] at hw ⊢; omega), rfl⟩
    | exact ⟨sub a 3 1, wa.sub 3 1 (by decide), by first | omega | (clear wa; simp only [csD, CV.d, rowC, ofD, argG, List.zipIdx, List.map, wRow, wD, sub, List.range, List.range.loop, List.getD_cons_zero, List.getD_cons_succ, Nat.reduceAdd] at hw ⊢; done) | (clear wa; simp only [csD, CV.d, rowC, ofD, argG, List.zipIdx, List.map, wRow, wD, sub, List.range, List.range.loop, List.getD_cons_zero, List.getD_cons_succ, Nat.reduceAdd] at hw ⊢; omega), rfl⟩
    | exact ⟨sub a 11 1, wa.sub 11 1 (by decide), by first | omega | (clear wa; simp only [csD, CV.d, rowC, ofD, argG, List.zipIdx, List.map, wRow, wD, sub, List.range, List.range.loop, List.getD_cons_zero, List.getD_cons_succ, Nat.reduceAdd] at hw ⊢; done) | (clear wa; simp only [csD, CV.d, rowC, ofD, argG, List.zipIdx, List.map, wRow, wD, sub, List.range, List.range.loop, List.getD_cons_zero, List.getD_cons_succ, Nat.reduceAdd] at hw ⊢; omega), rfl⟩
    | rfl
/-- laws.toEntryS -/
theorem ok56 : FOk Try.prog T 56 (toS 144 105) := by
  refine fok (env := envL [(100, (toG T [.i .i64, .i .i64, .i .i64, .l 3, .i .i64, .i .i64, .i .i64, .s, .l 142, .l 9, .l 218, .b] [.i .i64, .i .i64, .i .i64, .l 3, .i .i64, .i .i64, .i .i64, .s, .l 76, .l 9, .l 172, .b]))]) (N := 23) tabT (envL_cons ok100 envL_nil) mixed Try.func56 rfl Try.call56 Try.ntmps56 ?_
  rintro args ⟨a, hw, rfl⟩ hwf
  have wa : WfD T (.l 144) (.l a) := arg0 hwf (List.mem_singleton_self _)
  clear hwf
  have la : a.length ≤ 1048576 := by omega
  refine ⟨by simp, ?_⟩
  rw [Try.results56]
  repeat' first
    | (refine And.intro ?_ ?_)
    | (intro h; cases h)
    | (intro h; rw [h])
    | (intro h)
  all_goals first
    | (show lowEdges _ = true; kernel_rfl) | (show logOk _ _ = true; kernel_rfl) | trivial | exact Or.inr rfl | exact Or.inl rfl
    | rfl
    | (simp only [Ty.bytes]; omega)
    | omega
    | skip
  refine awp_loop (Q := _) [0, 3, 4] [] (fun n s => ∃ i : Int, s = ([argS 144 a, .val false [.sl true 105 (fill a ([.i .i64, .i .i64, .i .i64, .l 3, .i .i64, .i .i64, .i .i64, .s, .l 76, .l 9, .l 172, .b].map zeroD) i.toNat)], .val false [.i .i64 i]], []) ∧ 0 ≤ i ∧ i ≤ a.length ∧ n = a.length - i.toNat) ?_ ?_
  · exact ⟨rfl, a.length - 0, 0, congrArg (fun z => (([argS 144 a, .val false [.sl true 105 z], .val false [.i .i64 0]], []) : Snap)) (fill_zero a _).symm, by omega, by omega, rfl⟩
  rintro n s ⟨i, rfl, h1, h2, h3⟩
  repeat' first
    | (refine And.intro ?_ ?_)
    | (intro h; cases h)
    | (intro h; rw [h])
    | (intro h)
  all_goals first
    | (show lowEdges _ = true; kernel_rfl) | (show logOk _ _ = true; kernel_rfl) | trivial | exact Or.inr rfl | exact Or.inl rfl
    | omega
    | exact of_decide_eq_true ‹_›
    | (have := of_decide_eq_true ‹decide (i < (a.length : Int)) = true›; rw [fill_length (by omega)]; omega)
    | exact congrArg (fun z => [CV.sl false 105 z]) (fill_all h1 h2 ‹_›)
    | (have hi : i < (a.length : Int) := of_decide_eq_true ‹_›
       have hk : i.toNat < a.length := by omega
       have wr : WfRow T [.i .i64, .i .i64, .i .i64, .l 3, .i .i64, .i .i64, .i .i64, .s, .l 142, .l 9, .l 218, .b] (a.getD i.toNat []) := wa.row rfl hk
       have hwr := wRow_le hk
       first
         | exact ⟨_, wr, by rw [wRow_rowC wr]; omega, rfl⟩
         | exact ⟨_, wr, Nat.lt_of_lt_of_le (size_row hk) (Nat.le_of_lt_succ hs), by rw [wRow_rowC wr]; omega, rfl⟩
         | (refine ⟨a.length - (i + 1).toNat, by omega, i + 1, ?_, by omega, by omega, rfl⟩
            have e1 := fill_next (z := ([.i .i64, .i .i64, .i .i64, .l 3, .i .i64, .i .i64, .i .i64, .s, .l 76, .l 9, .l 172, .b].map zeroD)) h1 hi (by rw [csD_rowC wr, wr.1]; rfl) (csD_rowC wr)
            have e2 : IntKind.i64.wrap (i + 1) = i + 1 := wrap_next h1 hi (Nat.le_trans la (by decide))
            exact (congrArg (fun z => (([argS 144 a, .val false [.sl true 105 z], .val false [.i .i64 (IntKind.i64.wrap (i + 1))]], []) : Snap)) e1).trans (congrArg (fun z => (([argS 144 a, .val false [.sl true 105 (fill a ([.i .i64, .i .i64, .i .i64, .l 3, .i .i64, .i .i64, .i .i64, .s, .l 76, .l 9, .l 172, .b].map zeroD) (i + 1).toNat)], .val false [.i .i64 z]], []) : Snap)) e2)))
/-- laws.toEngine -/
theorem ok20 : FOk Try.prog T 20 (toG T [.l 181, .i .i64, .i .i64, .l 183, .l 95, .l 144, .i .i64, .i .i64, .i .i64] [.l 146, .i .i64, .i .i64, .l 113, .l 32, .l 105, .i .i64, .i .i64, .i .i64]) := by
  refine fok (env := envL [(54, (toG T [.l 181] [.l 146])), (55, (toG T [.i .i64, .i .i64, .l 183] [.i .i64, .i .i64, .l 113])), (14, (toS 95 32)), (56, (toS 144 105))]) (N := 30) tabT (envL_cons ok54 (envL_cons ok55 (envL_cons ok14 (envL_cons ok56 envL_nil)))) mixed Try.func20 rfl Try.call20 Try.ntmps20 ?_
  rintro args ⟨a, wa, hw, rfl⟩ hwf
  refine ⟨by simp, ?_⟩
  clear hwf
  rw [Try.results20]
  repeat' first
    | (refine And.intro ?_ ?_)
    | (intro h; cases h)
    | (intro h; rw [h])
    | (intro h)
  all_goals first
    | (show lowEdges _ = true; kernel_rfl) | (show logOk _ _ = true; kernel_rfl) | trivial | exact Or.inr rfl | exact Or.inl rfl
    | exact ⟨_, Nat.lt_of_lt_of_le (size_cell (by rw [wa.1]; decide)) (Nat.le_of_lt_succ hs), by first | omega | (clear wa; simp only [csD, CV.d, rowC, ofD, argG, List.zipIdx, List.map, wRow, wD, sub, List.range, List.range.loop, List.getD_cons_zero, List.getD_cons_succ, Nat.reduceAdd] at hw ⊢; done) | (clear wa; simp only [csD, CV.d, rowC, ofD, argG, List.zipIdx, List.map, wRow, wD, sub, List.range, List.range.loop, List.getD_cons_zero, List.getD_cons_succ, Nat.reduceAdd] at hw ⊢; omega), rfl⟩
    | exact ⟨_, by first | omega | (clear wa; simp only [csD, CV.d, rowC, ofD, argG, List.zipIdx, List.map, wRow, wD, sub, List.range, List.range.loop, List.getD_cons_zero, List.getD_cons_succ, Nat.reduceAdd] at hw ⊢; done) | (clear wa; simp only [csD, CV.d, rowC, ofD, argG, List.zipIdx, List.map, wRow, wD, sub, List.range, List.range.loop, List.getD_cons_zero, List.getD_cons_succ, Nat.reduceAdd] at hw ⊢; omega), rfl⟩
    | exact ⟨sub a 1 3, wa.sub 1 3 (by decide), by first | omega | (clear wa; simp only [csD, CV.d, rowC, ofD, argG, List.zipIdx, List.map, wRow, wD, sub, List.range, List.range.loop, List.getD_cons_zero, List.getD_cons_succ, Nat.reduceAdd] at hw ⊢; done) | (clear wa; simp only [csD, CV.d, rowC, ofD, argG, List.zipIdx, List.map, wRow, wD, sub, List.range, List.range.loop, List.getD_cons_zero, List.getD_cons_succ, Nat.reduceAdd] at hw ⊢; omega), rfl⟩
    | exact ⟨sub a 0 1, wa.sub 0 1 (by decide), by first | omega | (clear wa; simp only [csD, CV.d, rowC, ofD, argG, List.zipIdx, List.map, wRow, wD, sub, List.range, List.range.loop, List.getD_cons_zero, List.getD_cons_succ, Nat.reduceAdd] at hw ⊢; done) | (clear wa; simp only [csD, CV.d, rowC, ofD, argG, List.zipIdx, List.map, wRow, wD, sub, List.range, List.range.loop, List.getD_cons_zero, List.getD_cons_succ, Nat.reduceAdd] at hw ⊢; omega), rfl⟩
    | exact ⟨sub a 4 1, wa.sub 4 1 (by decide), by first | omega | (clear wa; simp only [csD, CV.d, rowC, ofD, argG, List.zipIdx, List.map, wRow, wD, sub, List.range, List.range.loop, List.getD_cons_zero, List.getD_cons_succ, Nat.reduceAdd] at hw ⊢; done) | (clear wa; simp only [csD, CV.d, rowC, ofD, argG, List.zipIdx, List.map, wRow, wD, sub, List.range, List.range.loop, List.getD_cons_zero, List.getD_cons_succ, Nat.reduceAdd] at hw ⊢; omega), rfl⟩
    | exact ⟨sub a 5 1, wa.sub 5 1 (by decide), by first | omega | (clear wa; simp only [csD, CV.d, rowC, ofD, argG, List.zipIdx, List.map, wRow, wD, sub, List.range, List.range.loop, List.getD_cons_zero, List.getD_cons_succ, Nat.reduceAdd] at hw ⊢; done) | (clear wa; simp only [csD, CV.d, rowC, ofD, argG, List.zipIdx, List.map, wRow, wD, sub, List.range, List.range.loop, List.getD_cons_zero, List.getD_cons_succ, Nat.reduceAdd] at hw ⊢; omega), rfl⟩
    | exact ⟨sub a 6 1, wa.sub 6 1 (by decide), by first | omega | (clear wa; simp only [csD, CV.d, rowC, ofD, argG, List.zipIdx, List.map, wRow, wD, sub, List.range, List.range.loop, List.getD_cons_zero, List.getD_cons_succ, Nat.reduceAdd] at hw ⊢; done) | (clear wa; simp only [csD, CV.d, rowC, ofD, argG, List.zipIdx, List.map, wRow, wD, sub, List.range, List.range.loop, List.getD_cons_zero, List.getD_cons_succ, Nat.reduceAdd] at hw ⊢; omega), rfl⟩
    | exact ⟨sub a 7 1, wa.sub 7 1 (by decide), by first | omega | (clear wa; simp only [csD, CV.d, rowC, ofD, argG, List.zipIdx, List.map, wRow, wD, sub, List.range, List.range.loop, List.getD_cons_zero, List.getD_cons_succ, Nat.reduceAdd] at hw ⊢; done) | (clear wa; simp only [csD, CV.d, rowC, ofD, argG, List.zipIdx, List.map, wRow, wD, sub, List.range, List.range.loop, List.getD_cons_zero, List.getD_cons_succ, Nat.reduceAdd] at hw ⊢; omega), rfl⟩
    | exact ⟨sub a 8 1, wa.sub 8 1 (by decide), by first | omega | (clear wa; simp only [csD, CV.d, rowC, ofD, argG, List.zipIdx, List.map, wRow, wD, sub, List.range, List.range.loop, List.getD_cons_zero, List.getD_cons_succ, Nat.reduceAdd] at hw ⊢; done) | (clear wa; simp only [csD, CV.d, rowC, ofD, argG, List.zipIdx, List.map, wRow, wD, sub, List.range, List.range.loop, List.getD_cons_zero, List.getD_cons_succ, Nat.reduceAdd] at hw ⊢; omega), rfl⟩
    | rfl
end Go.Proofs.Ytijnlnmoellbaaa.Ab
