/- Comparisons of the program: printed by a program of this claim. -/
import Derived.Test.YtijnlnmoellbaaaEe
namespace Go.Proofs.Ytijnlnmoellbaaa.Ab
open Go.RowKit
set_option linter.unusedVariables false
set_option linter.unusedSimpArgs false
set_option maxRecDepth 100000
/-- spec.l1Ints -/
theorem ok52 : FOk Try.prog T 52 (eqS 3) := by
  refine fok (env := envL []) (N := 26) tabT envL_nil mixed Try.func52 rfl Try.call52 Try.ntmps52 ?_
  rintro args ⟨a, b, rfl⟩ hwf
  have wa : WfD T (.l 3) (.l a) := arg0 hwf (List.mem_singleton_self _)
  have wb : WfD T (.l 3) (.l b) := arg1 hwf (List.mem_singleton_self _)
  clear hwf
  have la := wa.len
  refine ⟨by simp, ?_⟩
  rw [Try.results52]
  repeat' first
    | (refine And.intro ?_ ?_)
    | (intro h)
  all_goals first
    | (show lowEdges _ = true; kernel_rfl) | (show logOk _ _ = true; kernel_rfl) | trivial | exact Or.inr rfl | exact Or.inl rfl
    | exact res_no (ne_len ‹_›)
    | skip
  have hl := eq_len ‹_›
  refine awp_loop (Q := _) [0, 1, 5] [] (fun n s => ∃ i : Int, s = ([argS 3 a, argS 3 b, .val false [.i .i64 i]], []) ∧ 0 ≤ i ∧ i ≤ a.length ∧ n = a.length - i.toNat ∧ a.take i.toNat = b.take i.toNat) ?_ ?_
  · exact ⟨rfl, a.length - 0, _, rfl, by omega, by omega, rfl, rfl⟩
  rintro n s ⟨i, rfl, h1, h2, h3, h4⟩
  repeat' first
    | (refine And.intro ?_ ?_)
    | (intro h)
  all_goals first
    | (show lowEdges _ = true; kernel_rfl) | (show logOk _ _ = true; kernel_rfl) | trivial | exact Or.inr rfl | exact Or.inl rfl
    | omega
    | exact of_decide_eq_true ‹_›
    | exact hl ▸ of_decide_eq_true ‹decide (i < (a.length : Int)) = true›
    | exact ⟨_, _, rfl⟩
    | exact res_yes (eq_of_takes hl h1 h2 ‹_› h4)
    | (have hi : i < (a.length : Int) := of_decide_eq_true ‹_›
       have wra : WfRow T [.i .i64] (a.getD i.toNat []) := wa.row rfl (by omega)
       have wrb : WfRow T [.i .i64] (b.getD i.toNat []) := wb.row rfl (by omega)
       first
         | exact ⟨_, _, wra, wrb, rfl⟩
         | exact ⟨_, _, wra, wrb, Nat.lt_of_lt_of_le (size_row (by omega)) (Nat.le_of_lt_succ hs), rfl⟩
         | (refine res_no ?_; rintro rfl; simp_all [eqDs, eqD, str_inj]; done)
         | (refine ⟨a.length - (i + 1).toNat, by omega, i + 1, ?_, by omega, by omega, rfl, takes_next h1 hi hl h4 (row_eq wra wrb ?_)⟩
            · exact congrArg (fun z => ([argS 3 a, argS 3 b, .val false [.i .i64 z]], [])) (wrap_next h1 hi la)
            · simp_all [eqDs, eqD, str_inj, csD, CV.d, rowC, ofD, argG, sub, List.zipIdx, List.range, List.range.loop]))
    | rfl
/-- spec.l3Texts -/
theorem ok143 : FOk Try.prog T 143 (eqS 9) := by
  refine fok (env := envL []) (N := 26) tabT envL_nil mixed Try.func143 rfl Try.call143 Try.ntmps143 ?_
  rintro args ⟨a, b, rfl⟩ hwf
  have wa : WfD T (.l 9) (.l a) := arg0 hwf (List.mem_singleton_self _)
  have wb : WfD T (.l 9) (.l b) := arg1 hwf (List.mem_singleton_self _)
  clear hwf
  have la := wa.len
  refine ⟨by simp, ?_⟩
  rw [Try.results143]
  repeat' first
    | (refine And.intro ?_ ?_)
    | (intro h)
  all_goals first
    | (show lowEdges _ = true; kernel_rfl) | (show logOk _ _ = true; kernel_rfl) | trivial | exact Or.inr rfl | exact Or.inl rfl
    | exact res_no (ne_len ‹_›)
    | skip
  have hl := eq_len ‹_›
  refine awp_loop (Q := _) [0, 1, 5] [] (fun n s => ∃ i : Int, s = ([argS 9 a, argS 9 b, .val false [.i .i64 i]], []) ∧ 0 ≤ i ∧ i ≤ a.length ∧ n = a.length - i.toNat ∧ a.take i.toNat = b.take i.toNat) ?_ ?_
  · exact ⟨rfl, a.length - 0, _, rfl, by omega, by omega, rfl, rfl⟩
  rintro n s ⟨i, rfl, h1, h2, h3, h4⟩
  repeat' first
    | (refine And.intro ?_ ?_)
    | (intro h)
  all_goals first
    | (show lowEdges _ = true; kernel_rfl) | (show logOk _ _ = true; kernel_rfl) | trivial | exact Or.inr rfl | exact Or.inl rfl
    | omega
    | exact of_decide_eq_true ‹_›
    | exact hl ▸ of_decide_eq_true ‹decide (i < (a.length : Int)) = true›
    | exact ⟨_, _, rfl⟩
    | exact res_yes (eq_of_takes hl h1 h2 ‹_› h4)
    | (have hi : i < (a.length : Int) := of_decide_eq_true ‹_›
       have wra : WfRow T [.s] (a.getD i.toNat []) := wa.row rfl (by omega)
       have wrb : WfRow T [.s] (b.getD i.toNat []) := wb.row rfl (by omega)
       first
         | exact ⟨_, _, wra, wrb, rfl⟩
         | exact ⟨_, _, wra, wrb, Nat.lt_of_lt_of_le (size_row (by omega)) (Nat.le_of_lt_succ hs), rfl⟩
         | (refine res_no ?_; rintro rfl; simp_all [eqDs, eqD, str_inj]; done)
         | (refine ⟨a.length - (i + 1).toNat, by omega, i + 1, ?_, by omega, by omega, rfl, takes_next h1 hi hl h4 (row_eq wra wrb ?_)⟩
            · exact congrArg (fun z => ([argS 9 a, argS 9 b, .val false [.i .i64 z]], [])) (wrap_next h1 hi la)
            · simp_all [eqDs, eqD, str_inj, csD, CV.d, rowC, ofD, argG, sub, List.zipIdx, List.range, List.range.loop]))
    | rfl
/-- spec.l3Origins -/
theorem ok144 : FOk Try.prog T 144 (eqS 192) := by
  refine fok (env := envL []) (N := 26) tabT envL_nil mixed Try.func144 rfl Try.call144 Try.ntmps144 ?_
  rintro args ⟨a, b, rfl⟩ hwf
  have wa : WfD T (.l 192) (.l a) := arg0 hwf (List.mem_singleton_self _)
  have wb : WfD T (.l 192) (.l b) := arg1 hwf (List.mem_singleton_self _)
  clear hwf
  have la := wa.len
  refine ⟨by simp, ?_⟩
  rw [Try.results144]
  repeat' first
    | (refine And.intro ?_ ?_)
    | (intro h)
  all_goals first
    | (show lowEdges _ = true; kernel_rfl) | (show logOk _ _ = true; kernel_rfl) | trivial | exact Or.inr rfl | exact Or.inl rfl
    | exact res_no (ne_len ‹_›)
    | skip
  have hl := eq_len ‹_›
  refine awp_loop (Q := _) [0, 1, 5] [] (fun n s => ∃ i : Int, s = ([argS 192 a, argS 192 b, .val false [.i .i64 i]], []) ∧ 0 ≤ i ∧ i ≤ a.length ∧ n = a.length - i.toNat ∧ a.take i.toNat = b.take i.toNat) ?_ ?_
  · exact ⟨rfl, a.length - 0, _, rfl, by omega, by omega, rfl, rfl⟩
  rintro n s ⟨i, rfl, h1, h2, h3, h4⟩
  repeat' first
    | (refine And.intro ?_ ?_)
    | (intro h)
  all_goals first
    | (show lowEdges _ = true; kernel_rfl) | (show logOk _ _ = true; kernel_rfl) | trivial | exact Or.inr rfl | exact Or.inl rfl
    | omega
    | exact of_decide_eq_true ‹_›
    | exact hl ▸ of_decide_eq_true ‹decide (i < (a.length : Int)) = true›
    | exact ⟨_, _, rfl⟩
    | exact res_yes (eq_of_takes hl h1 h2 ‹_› h4)
    | (have hi : i < (a.length : Int) := of_decide_eq_true ‹_›
       have wra : WfRow T [.i .i64, .i .i64] (a.getD i.toNat []) := wa.row rfl (by omega)
       have wrb : WfRow T [.i .i64, .i .i64] (b.getD i.toNat []) := wb.row rfl (by omega)
       first
         | exact ⟨_, _, wra, wrb, rfl⟩
         | exact ⟨_, _, wra, wrb, Nat.lt_of_lt_of_le (size_row (by omega)) (Nat.le_of_lt_succ hs), rfl⟩
         | (refine res_no ?_; rintro rfl; simp_all [eqDs, eqD, str_inj]; done)
         | (refine ⟨a.length - (i + 1).toNat, by omega, i + 1, ?_, by omega, by omega, rfl, takes_next h1 hi hl h4 (row_eq wra wrb ?_)⟩
            · exact congrArg (fun z => ([argS 192 a, argS 192 b, .val false [.i .i64 z]], [])) (wrap_next h1 hi la)
            · simp_all [eqDs, eqD, str_inj, csD, CV.d, rowC, ofD, argG, sub, List.zipIdx, List.range, List.range.loop]))
    | rfl
/-- impl.same[int] -/
theorem ok57 : FOk Try.prog T 57 (eqS 3) := by
  refine fok (env := envL []) (N := 26) tabT envL_nil mixed Try.func57 rfl Try.call57 Try.ntmps57 ?_
  rintro args ⟨a, b, rfl⟩ hwf
  have wa : WfD T (.l 3) (.l a) := arg0 hwf (List.mem_singleton_self _)
  have wb : WfD T (.l 3) (.l b) := arg1 hwf (List.mem_singleton_self _)
  clear hwf
  have la := wa.len
  refine ⟨by simp, ?_⟩
  rw [Try.results57]
  repeat' first
    | (refine And.intro ?_ ?_)
    | (intro h)
  all_goals first
    | (show lowEdges _ = true; kernel_rfl) | (show logOk _ _ = true; kernel_rfl) | trivial | exact Or.inr rfl | exact Or.inl rfl
    | exact res_no (ne_len ‹_›)
    | skip
  have hl := eq_len ‹_›
  refine awp_loop (Q := _) [0, 1, 12, 13] [] (fun n s => ∃ i : Int, s = ([argS 3 a, argS 3 b, .val false [.i .i64 a.length], .val false [.i .i64 i]], []) ∧ 0 ≤ i ∧ i ≤ a.length ∧ n = a.length - i.toNat ∧ a.take i.toNat = b.take i.toNat) ?_ ?_
  · exact ⟨rfl, a.length - 0, _, rfl, by omega, by omega, rfl, rfl⟩
  rintro n s ⟨i, rfl, h1, h2, h3, h4⟩
  repeat' first
    | (refine And.intro ?_ ?_)
    | (intro h)
  all_goals first
    | (show lowEdges _ = true; kernel_rfl) | (show logOk _ _ = true; kernel_rfl) | trivial | exact Or.inr rfl | exact Or.inl rfl
    | omega
    | exact of_decide_eq_true ‹_›
    | exact hl ▸ of_decide_eq_true ‹decide (i < (a.length : Int)) = true›
    | exact ⟨_, _, rfl⟩
    | exact res_yes (eq_of_takes hl h1 h2 ‹_› h4)
    | (have hi : i < (a.length : Int) := of_decide_eq_true ‹_›
       have wra : WfRow T [.i .i64] (a.getD i.toNat []) := wa.row rfl (by omega)
       have wrb : WfRow T [.i .i64] (b.getD i.toNat []) := wb.row rfl (by omega)
       first
         | exact ⟨_, _, wra, wrb, rfl⟩
         | exact ⟨_, _, wra, wrb, Nat.lt_of_lt_of_le (size_row (by omega)) (Nat.le_of_lt_succ hs), rfl⟩
         | (refine res_no ?_; rintro rfl; simp_all [eqDs, eqD, str_inj]; done)
         | (refine ⟨a.length - (i + 1).toNat, by omega, i + 1, ?_, by omega, by omega, rfl, takes_next h1 hi hl h4 (row_eq wra wrb ?_)⟩
            · exact congrArg (fun z => ([argS 3 a, argS 3 b, .val false [.i .i64 a.length], .val false [.i .i64 z]], [])) (wrap_next h1 hi la)
            · simp_all [eqDs, eqD, str_inj, csD, CV.d, rowC, ofD, argG, sub, List.zipIdx, List.range, List.range.loop]))
    | rfl
/-- impl.same[string] -/
theorem ok149 : FOk Try.prog T 149 (eqS 9) := by
  refine fok (env := envL []) (N := 26) tabT envL_nil mixed Try.func149 rfl Try.call149 Try.ntmps149 ?_
  rintro args ⟨a, b, rfl⟩ hwf
  have wa : WfD T (.l 9) (.l a) := arg0 hwf (List.mem_singleton_self _)
  have wb : WfD T (.l 9) (.l b) := arg1 hwf (List.mem_singleton_self _)
  clear hwf
  have la := wa.len
  refine ⟨by simp, ?_⟩
  rw [Try.results149]
  repeat' first
    | (refine And.intro ?_ ?_)
    | (intro h)
  all_goals first
    | (show lowEdges _ = true; kernel_rfl) | (show logOk _ _ = true; kernel_rfl) | trivial | exact Or.inr rfl | exact Or.inl rfl
    | exact res_no (ne_len ‹_›)
    | skip
  have hl := eq_len ‹_›
  refine awp_loop (Q := _) [0, 1, 12, 13] [] (fun n s => ∃ i : Int, s = ([argS 9 a, argS 9 b, .val false [.i .i64 a.length], .val false [.i .i64 i]], []) ∧ 0 ≤ i ∧ i ≤ a.length ∧ n = a.length - i.toNat ∧ a.take i.toNat = b.take i.toNat) ?_ ?_
  · exact ⟨rfl, a.length - 0, _, rfl, by omega, by omega, rfl, rfl⟩
  rintro n s ⟨i, rfl, h1, h2, h3, h4⟩
  repeat' first
    | (refine And.intro ?_ ?_)
    | (intro h)
  all_goals first
    | (show lowEdges _ = true; kernel_rfl) | (show logOk _ _ = true; kernel_rfl) | trivial | exact Or.inr rfl | exact Or.inl rfl
    | omega
    | exact of_decide_eq_true ‹_›
    | exact hl ▸ of_decide_eq_true ‹decide (i < (a.length : Int)) = true›
    | exact ⟨_, _, rfl⟩
    | exact res_yes (eq_of_takes hl h1 h2 ‹_› h4)
    | (have hi : i < (a.length : Int) := of_decide_eq_true ‹_›
       have wra : WfRow T [.s] (a.getD i.toNat []) := wa.row rfl (by omega)
       have wrb : WfRow T [.s] (b.getD i.toNat []) := wb.row rfl (by omega)
       first
         | exact ⟨_, _, wra, wrb, rfl⟩
         | exact ⟨_, _, wra, wrb, Nat.lt_of_lt_of_le (size_row (by omega)) (Nat.le_of_lt_succ hs), rfl⟩
         | (refine res_no ?_; rintro rfl; simp_all [eqDs, eqD, str_inj]; done)
         | (refine ⟨a.length - (i + 1).toNat, by omega, i + 1, ?_, by omega, by omega, rfl, takes_next h1 hi hl h4 (row_eq wra wrb ?_)⟩
            · exact congrArg (fun z => ([argS 9 a, argS 9 b, .val false [.i .i64 a.length], .val false [.i .i64 z]], [])) (wrap_next h1 hi la)
            · simp_all [eqDs, eqD, str_inj, csD, CV.d, rowC, ofD, argG, sub, List.zipIdx, List.range, List.range.loop]))
    | rfl
/-- impl.Origin] -/
theorem ok150 : FOk Try.prog T 150 (eqS 192) := by
  refine fok (env := envL []) (N := 26) tabT envL_nil mixed Try.func150 rfl Try.call150 Try.ntmps150 ?_
  rintro args ⟨a, b, rfl⟩ hwf
  have wa : WfD T (.l 192) (.l a) := arg0 hwf (List.mem_singleton_self _)
  have wb : WfD T (.l 192) (.l b) := arg1 hwf (List.mem_singleton_self _)
  clear hwf
  have la := wa.len
  refine ⟨by simp, ?_⟩
  rw [Try.results150]
  repeat' first
    | (refine And.intro ?_ ?_)
    | (intro h)
  all_goals first
    | (show lowEdges _ = true; kernel_rfl) | (show logOk _ _ = true; kernel_rfl) | trivial | exact Or.inr rfl | exact Or.inl rfl
    | exact res_no (ne_len ‹_›)
    | skip
  have hl := eq_len ‹_›
  refine awp_loop (Q := _) [0, 1, 12, 13] [] (fun n s => ∃ i : Int, s = ([argS 192 a, argS 192 b, .val false [.i .i64 a.length], .val false [.i .i64 i]], []) ∧ 0 ≤ i ∧ i ≤ a.length ∧ n = a.length - i.toNat ∧ a.take i.toNat = b.take i.toNat) ?_ ?_
  · exact ⟨rfl, a.length - 0, _, rfl, by omega, by omega, rfl, rfl⟩
  rintro n s ⟨i, rfl, h1, h2, h3, h4⟩
  repeat' first
    | (refine And.intro ?_ ?_)
    | (intro h)
  all_goals first
    | (show lowEdges _ = true; kernel_rfl) | (show logOk _ _ = true; kernel_rfl) | trivial | exact Or.inr rfl | exact Or.inl rfl
    | omega
    | exact of_decide_eq_true ‹_›
    | exact hl ▸ of_decide_eq_true ‹decide (i < (a.length : Int)) = true›
    | exact ⟨_, _, rfl⟩
    | exact res_yes (eq_of_takes hl h1 h2 ‹_› h4)
    | (have hi : i < (a.length : Int) := of_decide_eq_true ‹_›
       have wra : WfRow T [.i .i64, .i .i64] (a.getD i.toNat []) := wa.row rfl (by omega)
       have wrb : WfRow T [.i .i64, .i .i64] (b.getD i.toNat []) := wb.row rfl (by omega)
       first
         | exact ⟨_, _, wra, wrb, rfl⟩
         | exact ⟨_, _, wra, wrb, Nat.lt_of_lt_of_le (size_row (by omega)) (Nat.le_of_lt_succ hs), rfl⟩
         | (refine res_no ?_; rintro rfl; simp_all [eqDs, eqD, str_inj]; done)
         | (refine ⟨a.length - (i + 1).toNat, by omega, i + 1, ?_, by omega, by omega, rfl, takes_next h1 hi hl h4 (row_eq wra wrb ?_)⟩
            · exact congrArg (fun z => ([argS 192 a, argS 192 b, .val false [.i .i64 a.length], .val false [.i .i64 z]], [])) (wrap_next h1 hi la)
            · simp_all [eqDs, eqD, str_inj, csD, CV.d, rowC, ofD, argG, sub, List.zipIdx, List.range, List.range.loop]))
    | rfl
/-- impl.File] -/
theorem ok60 : FOk Try.prog T 60 (eqS 113) := by
  refine fok (env := envL []) (N := 26) tabT envL_nil mixed Try.func60 rfl Try.call60 Try.ntmps60 ?_
  rintro args ⟨a, b, rfl⟩ hwf
  have wa : WfD T (.l 113) (.l a) := arg0 hwf (List.mem_singleton_self _)
  have wb : WfD T (.l 113) (.l b) := arg1 hwf (List.mem_singleton_self _)
  clear hwf
  have la := wa.len
  refine ⟨by simp, ?_⟩
  rw [Try.results60]
  repeat' first
    | (refine And.intro ?_ ?_)
    | (intro h)
  all_goals first
    | (show lowEdges _ = true; kernel_rfl) | (show logOk _ _ = true; kernel_rfl) | trivial | exact Or.inr rfl | exact Or.inl rfl
    | exact res_no (ne_len ‹_›)
    | skip
  have hl := eq_len ‹_›
  refine awp_loop (Q := _) [0, 1, 12, 13] [] (fun n s => ∃ i : Int, s = ([argS 113 a, argS 113 b, .val false [.i .i64 a.length], .val false [.i .i64 i]], []) ∧ 0 ≤ i ∧ i ≤ a.length ∧ n = a.length - i.toNat ∧ a.take i.toNat = b.take i.toNat) ?_ ?_
  · exact ⟨rfl, a.length - 0, _, rfl, by omega, by omega, rfl, rfl⟩
  rintro n s ⟨i, rfl, h1, h2, h3, h4⟩
  repeat' first
    | (refine And.intro ?_ ?_)
    | (intro h)
  all_goals first
    | (show lowEdges _ = true; kernel_rfl) | (show logOk _ _ = true; kernel_rfl) | trivial | exact Or.inr rfl | exact Or.inl rfl
    | omega
    | exact of_decide_eq_true ‹_›
    | exact hl ▸ of_decide_eq_true ‹decide (i < (a.length : Int)) = true›
    | exact ⟨_, _, rfl⟩
    | exact res_yes (eq_of_takes hl h1 h2 ‹_› h4)
    | (have hi : i < (a.length : Int) := of_decide_eq_true ‹_›
       have wra : WfRow T [.s, .i .i64] (a.getD i.toNat []) := wa.row rfl (by omega)
       have wrb : WfRow T [.s, .i .i64] (b.getD i.toNat []) := wb.row rfl (by omega)
       first
         | exact ⟨_, _, wra, wrb, rfl⟩
         | exact ⟨_, _, wra, wrb, Nat.lt_of_lt_of_le (size_row (by omega)) (Nat.le_of_lt_succ hs), rfl⟩
         | (refine res_no ?_; rintro rfl; simp_all [eqDs, eqD, str_inj]; done)
         | (refine ⟨a.length - (i + 1).toNat, by omega, i + 1, ?_, by omega, by omega, rfl, takes_next h1 hi hl h4 (row_eq wra wrb ?_)⟩
            · exact congrArg (fun z => ([argS 113 a, argS 113 b, .val false [.i .i64 a.length], .val false [.i .i64 z]], [])) (wrap_next h1 hi la)
            · simp_all [eqDs, eqD, str_inj, csD, CV.d, rowC, ofD, argG, sub, List.zipIdx, List.range, List.range.loop]))
    | rfl
/-- impl.Cell] -/
theorem ok102 : FOk Try.prog T 102 (eqS 146) := by
  refine fok (env := envL []) (N := 26) tabT envL_nil mixed Try.func102 rfl Try.call102 Try.ntmps102 ?_
  rintro args ⟨a, b, rfl⟩ hwf
  have wa : WfD T (.l 146) (.l a) := arg0 hwf (List.mem_singleton_self _)
  have wb : WfD T (.l 146) (.l b) := arg1 hwf (List.mem_singleton_self _)
  clear hwf
  have la := wa.len
  refine ⟨by simp, ?_⟩
  rw [Try.results102]
  repeat' first
    | (refine And.intro ?_ ?_)
    | (intro h)
  all_goals first
    | (show lowEdges _ = true; kernel_rfl) | (show logOk _ _ = true; kernel_rfl) | trivial | exact Or.inr rfl | exact Or.inl rfl
    | exact res_no (ne_len ‹_›)
    | skip
  have hl := eq_len ‹_›
  refine awp_loop (Q := _) [0, 1, 12, 13] [] (fun n s => ∃ i : Int, s = ([argS 146 a, argS 146 b, .val false [.i .i64 a.length], .val false [.i .i64 i]], []) ∧ 0 ≤ i ∧ i ≤ a.length ∧ n = a.length - i.toNat ∧ a.take i.toNat = b.take i.toNat) ?_ ?_
  · exact ⟨rfl, a.length - 0, _, rfl, by omega, by omega, rfl, rfl⟩
  rintro n s ⟨i, rfl, h1, h2, h3, h4⟩
  repeat' first
    | (refine And.intro ?_ ?_)
    | (intro h)
  all_goals first
    | (show lowEdges _ = true; kernel_rfl) | (show logOk _ _ = true; kernel_rfl) | trivial | exact Or.inr rfl | exact Or.inl rfl
    | omega
    | exact of_decide_eq_true ‹_›
    | exact hl ▸ of_decide_eq_true ‹decide (i < (a.length : Int)) = true›
    | exact ⟨_, _, rfl⟩
    | exact res_yes (eq_of_takes hl h1 h2 ‹_› h4)
    | (have hi : i < (a.length : Int) := of_decide_eq_true ‹_›
       have wra : WfRow T [.i .i64, .i .i64, .i .i64, .s, .s, .i .i64] (a.getD i.toNat []) := wa.row rfl (by omega)
       have wrb : WfRow T [.i .i64, .i .i64, .i .i64, .s, .s, .i .i64] (b.getD i.toNat []) := wb.row rfl (by omega)
       first
         | exact ⟨_, _, wra, wrb, rfl⟩
         | exact ⟨_, _, wra, wrb, Nat.lt_of_lt_of_le (size_row (by omega)) (Nat.le_of_lt_succ hs), rfl⟩
         | (refine res_no ?_; rintro rfl; simp_all [eqDs, eqD, str_inj]; done)
         | (refine ⟨a.length - (i + 1).toNat, by omega, i + 1, ?_, by omega, by omega, rfl, takes_next h1 hi hl h4 (row_eq wra wrb ?_)⟩
            · exact congrArg (fun z => ([argS 146 a, argS 146 b, .val false [.i .i64 a.length], .val false [.i .i64 z]], [])) (wrap_next h1 hi la)
            · simp_all [eqDs, eqD, str_inj, csD, CV.d, rowC, ofD, argG, sub, List.zipIdx, List.range, List.range.loop]))
    | rfl
end Go.Proofs.Ytijnlnmoellbaaa.Ab
