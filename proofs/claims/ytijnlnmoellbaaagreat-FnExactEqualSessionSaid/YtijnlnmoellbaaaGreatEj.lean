/- Measures: printed by a program of this claim. -/
import Derived.Test.YtijnlnmoellbaaaGreatEs
namespace Go.Proofs.YtijnlnmoellbaaaGreat.Ab
open Go.RowKit
set_option linter.unusedVariables false
set_option linter.unusedSimpArgs false
set_option maxRecDepth 100000
set_option maxHeartbeats 1000000
/-- laws.szCell -/
theorem ok124 : FOk Tryz.prog T 124 (szG [.i .i64, .i .i64, .i .i64, .s, .s, .i .i64]) := by
  refine fok (env := envL []) (N := 20) tabT envL_nil mixed Tryz.func124 rfl Tryz.call124 Tryz.ntmps124 ?_
  rintro args ⟨a, l, wa, hl0, hl1, rfl⟩ hwf
  refine ⟨by simp, ?_⟩
  clear hwf
  have hs3 := wa.str (j := 3) rfl
  have hs4 := wa.str (j := 4) rfl
  rw [Tryz.results124]
  repeat' first
    | (refine And.intro ?_ ?_)
    | (intro h; cases h)
    | (intro h; rw [h])
    | (intro h)
  all_goals first
    | (show lowEdges _ = true; kernel_rfl) | (show logOk _ _ = true; kernel_rfl) | trivial | exact Or.inr rfl | exact Or.inl rfl
    | exact ⟨_, _, by first | omega | (simp only [szR, wRow_sl, decide_eq_true_eq, decide_eq_false_iff_not, IntKind.wrap_i64, maxLen, Nat.reduceAdd] at *; omega), by first | omega | (simp only [szR, wRow_sl, decide_eq_true_eq, decide_eq_false_iff_not, IntKind.wrap_i64, maxLen, Nat.reduceAdd] at *; omega), rfl⟩
    | exact ⟨_, _, Nat.lt_of_lt_of_le (size_cell (by rw [wa.1]; decide)) (Nat.le_of_lt_succ hs), by first | omega | (simp only [szR, wRow_sl, decide_eq_true_eq, decide_eq_false_iff_not, IntKind.wrap_i64, maxLen, Nat.reduceAdd] at *; omega), by first | omega | (simp only [szR, wRow_sl, decide_eq_true_eq, decide_eq_false_iff_not, IntKind.wrap_i64, maxLen, Nat.reduceAdd] at *; omega), rfl⟩
    | exact ⟨sub a 0 1, _, wa.sub 0 1 (by decide), by first | omega | (simp only [szR, wRow_sl, decide_eq_true_eq, decide_eq_false_iff_not, IntKind.wrap_i64, maxLen, Nat.reduceAdd] at *; omega), by first | omega | (simp only [szR, wRow_sl, decide_eq_true_eq, decide_eq_false_iff_not, IntKind.wrap_i64, maxLen, Nat.reduceAdd] at *; omega), rfl⟩ | exact ⟨sub a 1 1, _, wa.sub 1 1 (by decide), by first | omega | (simp only [szR, wRow_sl, decide_eq_true_eq, decide_eq_false_iff_not, IntKind.wrap_i64, maxLen, Nat.reduceAdd] at *; omega), by first | omega | (simp only [szR, wRow_sl, decide_eq_true_eq, decide_eq_false_iff_not, IntKind.wrap_i64, maxLen, Nat.reduceAdd] at *; omega), rfl⟩ | exact ⟨sub a 2 1, _, wa.sub 2 1 (by decide), by first | omega | (simp only [szR, wRow_sl, decide_eq_true_eq, decide_eq_false_iff_not, IntKind.wrap_i64, maxLen, Nat.reduceAdd] at *; omega), by first | omega | (simp only [szR, wRow_sl, decide_eq_true_eq, decide_eq_false_iff_not, IntKind.wrap_i64, maxLen, Nat.reduceAdd] at *; omega), rfl⟩ | exact ⟨sub a 3 1, _, wa.sub 3 1 (by decide), by first | omega | (simp only [szR, wRow_sl, decide_eq_true_eq, decide_eq_false_iff_not, IntKind.wrap_i64, maxLen, Nat.reduceAdd] at *; omega), by first | omega | (simp only [szR, wRow_sl, decide_eq_true_eq, decide_eq_false_iff_not, IntKind.wrap_i64, maxLen, Nat.reduceAdd] at *; omega), rfl⟩ | exact ⟨sub a 4 1, _, wa.sub 4 1 (by decide), by first | omega | (simp only [szR, wRow_sl, decide_eq_true_eq, decide_eq_false_iff_not, IntKind.wrap_i64, maxLen, Nat.reduceAdd] at *; omega), by first | omega | (simp only [szR, wRow_sl, decide_eq_true_eq, decide_eq_false_iff_not, IntKind.wrap_i64, maxLen, Nat.reduceAdd] at *; omega), rfl⟩ | exact ⟨sub a 5 1, _, wa.sub 5 1 (by decide), by first | omega | (simp only [szR, wRow_sl, decide_eq_true_eq, decide_eq_false_iff_not, IntKind.wrap_i64, maxLen, Nat.reduceAdd] at *; omega), by first | omega | (simp only [szR, wRow_sl, decide_eq_true_eq, decide_eq_false_iff_not, IntKind.wrap_i64, maxLen, Nat.reduceAdd] at *; omega), rfl⟩
    | (refine resI ?_; simp only [csD, CV.d, rowC, ofD, argG, List.zipIdx, List.map, wRow, wD, sub, List.range, List.range.loop, Nat.reduceAdd]; simp only [csD, CV.d, rowC, ofD, argG, List.zipIdx, List.map, wRow, wD, sub, List.range, List.range.loop, Nat.reduceAdd, szR, wRow_sl, decide_eq_true_eq, decide_eq_false_iff_not, IntKind.wrap_i64, maxLen] at *; omega)
/-- laws.szCellS -/
theorem ok89 : FOk Tryz.prog T 89 (szS 176) := by
  refine fok (env := envL [(124, (szG [.i .i64, .i .i64, .i .i64, .s, .s, .i .i64]))]) (N := 27) tabT (envL_cons ok124 envL_nil) mixed Tryz.func89 rfl Tryz.call89 Tryz.ntmps89 ?_
  rintro args ⟨a, l, hl0, hl1, rfl⟩ hwf
  have wa : WfD T (.l 176) (.l a) := arg0 hwf (List.mem_singleton_self _)
  clear hwf
  have la := wa.len
  refine ⟨by simp, ?_⟩
  rw [Tryz.results89]
  repeat' first
    | (refine And.intro ?_ ?_)
    | (intro h; cases h)
    | (intro h; rw [h])
    | (intro h)
  all_goals first
    | (show lowEdges _ = true; kernel_rfl) | (show logOk _ _ = true; kernel_rfl) | trivial | exact Or.inr rfl | exact Or.inl rfl
    | (refine resI ?_; have h := sub_no ‹_› hl0 hl1 la; have := szR_lt (l := l) (w := wRow (csD [.sl false 176 a])) (by rw [wRow_sl]; omega); exact this.symm)
    | skip
  obtain ⟨hb, he⟩ := sub_yes ‹_› hl0 hl1 la
  refine awp_loop (Q := _) [0, 1, 5] [] (fun n s => ∃ i : Int, s = ([argS 176 a, .val false [.i .i64 (l - a.length - wRows (a.take i.toNat))], .val false [.i .i64 i]], []) ∧ 0 ≤ i ∧ i ≤ a.length ∧ n = a.length - i.toNat ∧ 0 ≤ l - a.length - wRows (a.take i.toNat)) ?_ ?_
  · exact ⟨rfl, a.length - 0, 0, congrArg (fun z : Int => (([argS 176 a, .val false [.i .i64 z], .val false [.i .i64 0]], []) : Snap)) (by rw [he]; simp [wRows]), by omega, by omega, rfl, by simp [wRows]; omega⟩
  rintro n s ⟨i, rfl, h1, h2, h3, h4⟩
  repeat' first
    | (refine And.intro ?_ ?_)
    | (intro h; cases h)
    | (intro h; rw [h])
    | (intro h)
  all_goals first
    | (show lowEdges _ = true; kernel_rfl) | (show logOk _ _ = true; kernel_rfl) | trivial | exact Or.inr rfl | exact Or.inl rfl
    | omega
    | exact of_decide_eq_true ‹_›
    | (have hA := wRows_all h1 h2 ‹_›
       refine resI ?_
       have := szR_ge (l := l) (w := wRow (csD [.sl false 176 a])) (by rw [wRow_sl]; omega)
       rw [this, wRow_sl, hA]; omega)
    | skip
  all_goals
    have hi : i < (a.length : Int) := of_decide_eq_true ‹decide (i < (a.length : Int)) = true›
    have wr : WfRow T [.i .i64, .i .i64, .i .i64, .s, .s, .i .i64] (a.getD i.toNat []) := wa.row rfl (by omega)
    have hnx := wRows_next h1 hi
    have hle := wRows_le a (i + 1).toNat
    have hrow : wRow (a.getD i.toNat []) = wRow (csD (rowC [.i .i64, .i .i64, .i .i64, .s, .s, .i .i64] (a.getD i.toNat []))) := (wRow_rowC wr).symm
    first
      | exact ⟨_, _, wr, by omega, by omega, rfl⟩
      | exact ⟨_, _, wr, Nat.lt_of_lt_of_le (size_row (by omega)) (Nat.le_of_lt_succ hs), by omega, by omega, rfl⟩
      | (refine resI ?_
         have hw := szR_no (‹decide (szR (l - a.length - wRows (a.take i.toNat)) (wRow (csD (rowC [.i .i64, .i .i64, .i .i64, .s, .s, .i .i64] (a.getD i.toNat [])))) < 0) = true›) h4
         have := szR_lt (l := l) (w := wRow (csD [.sl false 176 a])) (by rw [wRow_sl]; omega)
         exact this.symm)
      | (obtain ⟨hw, hv⟩ := szR_yes (‹decide (szR (l - a.length - wRows (a.take i.toNat)) (wRow (csD (rowC [.i .i64, .i .i64, .i .i64, .s, .s, .i .i64] (a.getD i.toNat [])))) < 0) = false›)
         refine ⟨a.length - (i + 1).toNat, by omega, i + 1, ?_, by omega, by omega, rfl, by omega⟩
         have e2 : szR (l - a.length - wRows (a.take i.toNat)) (wRow (csD (rowC [.i .i64, .i .i64, .i .i64, .s, .s, .i .i64] (a.getD i.toNat [])))) = l - a.length - wRows (a.take (i + 1).toNat) := hv.trans (by omega)
         have e3 := wrap_next h1 hi la
         exact (congrArg (fun z : Int => (([argS 176 a, .val false [.i .i64 (szR (l - a.length - wRows (a.take i.toNat)) (wRow (csD (rowC [.i .i64, .i .i64, .i .i64, .s, .s, .i .i64] (a.getD i.toNat [])))))], .val false [.i .i64 z]], []) : Snap)) e3).trans (congrArg (fun z : Int => (([argS 176 a, .val false [.i .i64 z], .val false [.i .i64 (i + 1)]], []) : Snap)) e2))
/-- laws.szNotebook -/
theorem ok45 : FOk Tryz.prog T 45 (szG [.l 176]) := by
  refine fok (env := envL [(89, (szS 176))]) (N := 12) tabT (envL_cons ok89 envL_nil) mixed Tryz.func45 rfl Tryz.call45 Tryz.ntmps45 ?_
  rintro args ⟨a, l, wa, hl0, hl1, rfl⟩ hwf
  refine ⟨by simp, ?_⟩
  clear hwf
  rw [Tryz.results45]
  repeat' first
    | (refine And.intro ?_ ?_)
    | (intro h; cases h)
    | (intro h; rw [h])
    | (intro h)
  all_goals first
    | (show lowEdges _ = true; kernel_rfl) | (show logOk _ _ = true; kernel_rfl) | trivial | exact Or.inr rfl | exact Or.inl rfl
    | exact ⟨_, _, by first | omega | (simp only [szR, wRow_sl, decide_eq_true_eq, decide_eq_false_iff_not, IntKind.wrap_i64, maxLen, Nat.reduceAdd] at *; omega), by first | omega | (simp only [szR, wRow_sl, decide_eq_true_eq, decide_eq_false_iff_not, IntKind.wrap_i64, maxLen, Nat.reduceAdd] at *; omega), rfl⟩
    | exact ⟨_, _, Nat.lt_of_lt_of_le (size_cell (by rw [wa.1]; decide)) (Nat.le_of_lt_succ hs), by first | omega | (simp only [szR, wRow_sl, decide_eq_true_eq, decide_eq_false_iff_not, IntKind.wrap_i64, maxLen, Nat.reduceAdd] at *; omega), by first | omega | (simp only [szR, wRow_sl, decide_eq_true_eq, decide_eq_false_iff_not, IntKind.wrap_i64, maxLen, Nat.reduceAdd] at *; omega), rfl⟩
    | exact ⟨sub a 0 1, _, wa.sub 0 1 (by decide), by first | omega | (simp only [szR, wRow_sl, decide_eq_true_eq, decide_eq_false_iff_not, IntKind.wrap_i64, maxLen, Nat.reduceAdd] at *; omega), by first | omega | (simp only [szR, wRow_sl, decide_eq_true_eq, decide_eq_false_iff_not, IntKind.wrap_i64, maxLen, Nat.reduceAdd] at *; omega), rfl⟩
    | (refine resI ?_; simp only [csD, CV.d, rowC, ofD, argG, List.zipIdx, List.map, wRow, wD, sub, List.range, List.range.loop, Nat.reduceAdd]; simp only [csD, CV.d, rowC, ofD, argG, List.zipIdx, List.map, wRow, wD, sub, List.range, List.range.loop, Nat.reduceAdd, szR, wRow_sl, decide_eq_true_eq, decide_eq_false_iff_not, IntKind.wrap_i64, maxLen] at *; omega)
/-- laws.szFile -/
theorem ok125 : FOk Tryz.prog T 125 (szG [.s, .i .i64]) := by
  refine fok (env := envL []) (N := 13) tabT envL_nil mixed Tryz.func125 rfl Tryz.call125 Tryz.ntmps125 ?_
  rintro args ⟨a, l, wa, hl0, hl1, rfl⟩ hwf
  refine ⟨by simp, ?_⟩
  clear hwf
  have hs0 := wa.str (j := 0) rfl
  rw [Tryz.results125]
  repeat' first
    | (refine And.intro ?_ ?_)
    | (intro h; cases h)
    | (intro h; rw [h])
    | (intro h)
  all_goals first
    | (show lowEdges _ = true; kernel_rfl) | (show logOk _ _ = true; kernel_rfl) | trivial | exact Or.inr rfl | exact Or.inl rfl
    | exact ⟨_, _, by first | omega | (simp only [szR, wRow_sl, decide_eq_true_eq, decide_eq_false_iff_not, IntKind.wrap_i64, maxLen, Nat.reduceAdd] at *; omega), by first | omega | (simp only [szR, wRow_sl, decide_eq_true_eq, decide_eq_false_iff_not, IntKind.wrap_i64, maxLen, Nat.reduceAdd] at *; omega), rfl⟩
    | exact ⟨_, _, Nat.lt_of_lt_of_le (size_cell (by rw [wa.1]; decide)) (Nat.le_of_lt_succ hs), by first | omega | (simp only [szR, wRow_sl, decide_eq_true_eq, decide_eq_false_iff_not, IntKind.wrap_i64, maxLen, Nat.reduceAdd] at *; omega), by first | omega | (simp only [szR, wRow_sl, decide_eq_true_eq, decide_eq_false_iff_not, IntKind.wrap_i64, maxLen, Nat.reduceAdd] at *; omega), rfl⟩
    | exact ⟨sub a 0 1, _, wa.sub 0 1 (by decide), by first | omega | (simp only [szR, wRow_sl, decide_eq_true_eq, decide_eq_false_iff_not, IntKind.wrap_i64, maxLen, Nat.reduceAdd] at *; omega), by first | omega | (simp only [szR, wRow_sl, decide_eq_true_eq, decide_eq_false_iff_not, IntKind.wrap_i64, maxLen, Nat.reduceAdd] at *; omega), rfl⟩ | exact ⟨sub a 1 1, _, wa.sub 1 1 (by decide), by first | omega | (simp only [szR, wRow_sl, decide_eq_true_eq, decide_eq_false_iff_not, IntKind.wrap_i64, maxLen, Nat.reduceAdd] at *; omega), by first | omega | (simp only [szR, wRow_sl, decide_eq_true_eq, decide_eq_false_iff_not, IntKind.wrap_i64, maxLen, Nat.reduceAdd] at *; omega), rfl⟩
    | (refine resI ?_; simp only [csD, CV.d, rowC, ofD, argG, List.zipIdx, List.map, wRow, wD, sub, List.range, List.range.loop, Nat.reduceAdd]; simp only [csD, CV.d, rowC, ofD, argG, List.zipIdx, List.map, wRow, wD, sub, List.range, List.range.loop, Nat.reduceAdd, szR, wRow_sl, decide_eq_true_eq, decide_eq_false_iff_not, IntKind.wrap_i64, maxLen] at *; omega)
/-- laws.szFileS -/
theorem ok90 : FOk Tryz.prog T 90 (szS 178) := by
  refine fok (env := envL [(125, (szG [.s, .i .i64]))]) (N := 27) tabT (envL_cons ok125 envL_nil) mixed Tryz.func90 rfl Tryz.call90 Tryz.ntmps90 ?_
  rintro args ⟨a, l, hl0, hl1, rfl⟩ hwf
  have wa : WfD T (.l 178) (.l a) := arg0 hwf (List.mem_singleton_self _)
  clear hwf
  have la := wa.len
  refine ⟨by simp, ?_⟩
  rw [Tryz.results90]
  repeat' first
    | (refine And.intro ?_ ?_)
    | (intro h; cases h)
    | (intro h; rw [h])
    | (intro h)
  all_goals first
    | (show lowEdges _ = true; kernel_rfl) | (show logOk _ _ = true; kernel_rfl) | trivial | exact Or.inr rfl | exact Or.inl rfl
    | (refine resI ?_; have h := sub_no ‹_› hl0 hl1 la; have := szR_lt (l := l) (w := wRow (csD [.sl false 178 a])) (by rw [wRow_sl]; omega); exact this.symm)
    | skip
  obtain ⟨hb, he⟩ := sub_yes ‹_› hl0 hl1 la
  refine awp_loop (Q := _) [0, 1, 5] [] (fun n s => ∃ i : Int, s = ([argS 178 a, .val false [.i .i64 (l - a.length - wRows (a.take i.toNat))], .val false [.i .i64 i]], []) ∧ 0 ≤ i ∧ i ≤ a.length ∧ n = a.length - i.toNat ∧ 0 ≤ l - a.length - wRows (a.take i.toNat)) ?_ ?_
  · exact ⟨rfl, a.length - 0, 0, congrArg (fun z : Int => (([argS 178 a, .val false [.i .i64 z], .val false [.i .i64 0]], []) : Snap)) (by rw [he]; simp [wRows]), by omega, by omega, rfl, by simp [wRows]; omega⟩
  rintro n s ⟨i, rfl, h1, h2, h3, h4⟩
  repeat' first
    | (refine And.intro ?_ ?_)
    | (intro h; cases h)
    | (intro h; rw [h])
    | (intro h)
  all_goals first
    | (show lowEdges _ = true; kernel_rfl) | (show logOk _ _ = true; kernel_rfl) | trivial | exact Or.inr rfl | exact Or.inl rfl
    | omega
    | exact of_decide_eq_true ‹_›
    | (have hA := wRows_all h1 h2 ‹_›
       refine resI ?_
       have := szR_ge (l := l) (w := wRow (csD [.sl false 178 a])) (by rw [wRow_sl]; omega)
       rw [this, wRow_sl, hA]; omega)
    | skip
  all_goals
    have hi : i < (a.length : Int) := of_decide_eq_true ‹decide (i < (a.length : Int)) = true›
    have wr : WfRow T [.s, .i .i64] (a.getD i.toNat []) := wa.row rfl (by omega)
    have hnx := wRows_next h1 hi
    have hle := wRows_le a (i + 1).toNat
    have hrow : wRow (a.getD i.toNat []) = wRow (csD (rowC [.s, .i .i64] (a.getD i.toNat []))) := (wRow_rowC wr).symm
    first
      | exact ⟨_, _, wr, by omega, by omega, rfl⟩
      | exact ⟨_, _, wr, Nat.lt_of_lt_of_le (size_row (by omega)) (Nat.le_of_lt_succ hs), by omega, by omega, rfl⟩
      | (refine resI ?_
         have hw := szR_no (‹decide (szR (l - a.length - wRows (a.take i.toNat)) (wRow (csD (rowC [.s, .i .i64] (a.getD i.toNat [])))) < 0) = true›) h4
         have := szR_lt (l := l) (w := wRow (csD [.sl false 178 a])) (by rw [wRow_sl]; omega)
         exact this.symm)
      | (obtain ⟨hw, hv⟩ := szR_yes (‹decide (szR (l - a.length - wRows (a.take i.toNat)) (wRow (csD (rowC [.s, .i .i64] (a.getD i.toNat [])))) < 0) = false›)
         refine ⟨a.length - (i + 1).toNat, by omega, i + 1, ?_, by omega, by omega, rfl, by omega⟩
         have e2 : szR (l - a.length - wRows (a.take i.toNat)) (wRow (csD (rowC [.s, .i .i64] (a.getD i.toNat [])))) = l - a.length - wRows (a.take (i + 1).toNat) := hv.trans (by omega)
         have e3 := wrap_next h1 hi la
         exact (congrArg (fun z : Int => (([argS 178 a, .val false [.i .i64 (szR (l - a.length - wRows (a.take i.toNat)) (wRow (csD (rowC [.s, .i .i64] (a.getD i.toNat [])))))], .val false [.i .i64 z]], []) : Snap)) e3).trans (congrArg (fun z : Int => (([argS 178 a, .val false [.i .i64 z], .val false [.i .i64 (i + 1)]], []) : Snap)) e2))
/-- laws.szWorld -/
theorem ok46 : FOk Tryz.prog T 46 (szG [.i .i64, .i .i64, .l 178]) := by
  refine fok (env := envL [(90, (szS 178))]) (N := 12) tabT (envL_cons ok90 envL_nil) mixed Tryz.func46 rfl Tryz.call46 Tryz.ntmps46 ?_
  rintro args ⟨a, l, wa, hl0, hl1, rfl⟩ hwf
  refine ⟨by simp, ?_⟩
  clear hwf
  rw [Tryz.results46]
  repeat' first
    | (refine And.intro ?_ ?_)
    | (intro h; cases h)
    | (intro h; rw [h])
    | (intro h)
  all_goals first
    | (show lowEdges _ = true; kernel_rfl) | (show logOk _ _ = true; kernel_rfl) | trivial | exact Or.inr rfl | exact Or.inl rfl
    | exact ⟨_, _, by first | omega | (simp only [szR, wRow_sl, decide_eq_true_eq, decide_eq_false_iff_not, IntKind.wrap_i64, maxLen, Nat.reduceAdd] at *; omega), by first | omega | (simp only [szR, wRow_sl, decide_eq_true_eq, decide_eq_false_iff_not, IntKind.wrap_i64, maxLen, Nat.reduceAdd] at *; omega), rfl⟩
    | exact ⟨_, _, Nat.lt_of_lt_of_le (size_cell (by rw [wa.1]; decide)) (Nat.le_of_lt_succ hs), by first | omega | (simp only [szR, wRow_sl, decide_eq_true_eq, decide_eq_false_iff_not, IntKind.wrap_i64, maxLen, Nat.reduceAdd] at *; omega), by first | omega | (simp only [szR, wRow_sl, decide_eq_true_eq, decide_eq_false_iff_not, IntKind.wrap_i64, maxLen, Nat.reduceAdd] at *; omega), rfl⟩
    | exact ⟨sub a 0 1, _, wa.sub 0 1 (by decide), by first | omega | (simp only [szR, wRow_sl, decide_eq_true_eq, decide_eq_false_iff_not, IntKind.wrap_i64, maxLen, Nat.reduceAdd] at *; omega), by first | omega | (simp only [szR, wRow_sl, decide_eq_true_eq, decide_eq_false_iff_not, IntKind.wrap_i64, maxLen, Nat.reduceAdd] at *; omega), rfl⟩ | exact ⟨sub a 1 1, _, wa.sub 1 1 (by decide), by first | omega | (simp only [szR, wRow_sl, decide_eq_true_eq, decide_eq_false_iff_not, IntKind.wrap_i64, maxLen, Nat.reduceAdd] at *; omega), by first | omega | (simp only [szR, wRow_sl, decide_eq_true_eq, decide_eq_false_iff_not, IntKind.wrap_i64, maxLen, Nat.reduceAdd] at *; omega), rfl⟩ | exact ⟨sub a 2 1, _, wa.sub 2 1 (by decide), by first | omega | (simp only [szR, wRow_sl, decide_eq_true_eq, decide_eq_false_iff_not, IntKind.wrap_i64, maxLen, Nat.reduceAdd] at *; omega), by first | omega | (simp only [szR, wRow_sl, decide_eq_true_eq, decide_eq_false_iff_not, IntKind.wrap_i64, maxLen, Nat.reduceAdd] at *; omega), rfl⟩
    | (refine resI ?_; simp only [csD, CV.d, rowC, ofD, argG, List.zipIdx, List.map, wRow, wD, sub, List.range, List.range.loop, Nat.reduceAdd]; simp only [csD, CV.d, rowC, ofD, argG, List.zipIdx, List.map, wRow, wD, sub, List.range, List.range.loop, Nat.reduceAdd, szR, wRow_sl, decide_eq_true_eq, decide_eq_false_iff_not, IntKind.wrap_i64, maxLen] at *; omega)
/-- laws.szStringS -/
theorem ok164 : FOk Tryz.prog T 164 (szS 9) := by
  refine fok (env := envL []) (N := 28) tabT envL_nil mixed Tryz.func164 rfl Tryz.call164 Tryz.ntmps164 ?_
  rintro args ⟨a, l, hl0, hl1, rfl⟩ hwf
  have wa : WfD T (.l 9) (.l a) := arg0 hwf (List.mem_singleton_self _)
  clear hwf
  have la := wa.len
  refine ⟨by simp, ?_⟩
  rw [Tryz.results164]
  repeat' first
    | (refine And.intro ?_ ?_)
    | (intro h; cases h)
    | (intro h; rw [h])
    | (intro h)
  all_goals first
    | (show lowEdges _ = true; kernel_rfl) | (show logOk _ _ = true; kernel_rfl) | trivial | exact Or.inr rfl | exact Or.inl rfl
    | (refine resI ?_; have h := sub_no ‹_› hl0 hl1 la; have := szR_lt (l := l) (w := wRow (csD [.sl false 9 a])) (by rw [wRow_sl]; omega); exact this.symm)
    | skip
  obtain ⟨hb, he⟩ := sub_yes ‹_› hl0 hl1 la
  refine awp_loop (Q := _) [0, 1, 5] [] (fun n s => ∃ i : Int, s = ([argS 9 a, .val false [.i .i64 (l - a.length - wRows (a.take i.toNat))], .val false [.i .i64 i]], []) ∧ 0 ≤ i ∧ i ≤ a.length ∧ n = a.length - i.toNat ∧ 0 ≤ l - a.length - wRows (a.take i.toNat)) ?_ ?_
  · exact ⟨rfl, a.length - 0, 0, congrArg (fun z : Int => (([argS 9 a, .val false [.i .i64 z], .val false [.i .i64 0]], []) : Snap)) (by rw [he]; simp [wRows]), by omega, by omega, rfl, by simp [wRows]; omega⟩
  rintro n s ⟨i, rfl, h1, h2, h3, h4⟩
  repeat' first
    | (refine And.intro ?_ ?_)
    | (intro h; cases h)
    | (intro h; rw [h])
    | (intro h)
  all_goals first
    | (show lowEdges _ = true; kernel_rfl) | (show logOk _ _ = true; kernel_rfl) | trivial | exact Or.inr rfl | exact Or.inl rfl
    | omega
    | exact of_decide_eq_true ‹_›
    | (have hA := wRows_all h1 h2 ‹_›
       refine resI ?_
       have := szR_ge (l := l) (w := wRow (csD [.sl false 9 a])) (by rw [wRow_sl]; omega)
       rw [this, wRow_sl, hA]; omega)
    | skip
  all_goals
    have hi : i < (a.length : Int) := of_decide_eq_true ‹decide (i < (a.length : Int)) = true›
    have wr : WfRow T [.s] (a.getD i.toNat []) := wa.row rfl (by omega)
    have hnx := wRows_next h1 hi
    have hle := wRows_le a (i + 1).toNat
    have hstr := wr.str (j := 0) rfl
    have hrow : wRow (a.getD i.toNat []) = ((a.getD i.toNat []).getD 0 default).str.size := by
      rw [← wRow_rowC wr]
      simp [csD, CV.d, rowC, ofD, argG, List.zipIdx, List.map, wRow, wD, sub, List.range, List.range.loop, Nat.reduceAdd]
    first
      | exact ⟨_, _, wr, by omega, by omega, rfl⟩
      | exact ⟨_, _, wr, Nat.lt_of_lt_of_le (size_row (by omega)) (Nat.le_of_lt_succ hs), by omega, by omega, rfl⟩
      | (refine resI ?_
         have hw := sub_no (‹decide (IntKind.i64.wrap ((l - a.length - wRows (a.take i.toNat)) - ((a.getD i.toNat []).getD 0 default).str.size) < 0) = true›) h4 (by omega) hstr
         have := szR_lt (l := l) (w := wRow (csD [.sl false 9 a])) (by rw [wRow_sl]; omega)
         exact this.symm)
      | (obtain ⟨hw, hv⟩ := sub_yes (‹decide (IntKind.i64.wrap ((l - a.length - wRows (a.take i.toNat)) - ((a.getD i.toNat []).getD 0 default).str.size) < 0) = false›) h4 (by omega) hstr
         refine ⟨a.length - (i + 1).toNat, by omega, i + 1, ?_, by omega, by omega, rfl, by omega⟩
         have e2 : IntKind.i64.wrap ((l - a.length - wRows (a.take i.toNat)) - ((a.getD i.toNat []).getD 0 default).str.size) = l - a.length - wRows (a.take (i + 1).toNat) := hv.trans (by omega)
         have e3 := wrap_next h1 hi la
         exact (congrArg (fun z : Int => (([argS 9 a, .val false [.i .i64 (IntKind.i64.wrap ((l - a.length - wRows (a.take i.toNat)) - ((a.getD i.toNat []).getD 0 default).str.size))], .val false [.i .i64 z]], []) : Snap)) e3).trans (congrArg (fun z : Int => (([argS 9 a, .val false [.i .i64 z], .val false [.i .i64 (i + 1)]], []) : Snap)) e2))
/-- laws.szIntS -/
theorem ok127 : FOk Tryz.prog T 127 (szS 3) := by
  refine fok (env := envL []) (N := 12) tabT envL_nil mixed Tryz.func127 rfl Tryz.call127 Tryz.ntmps127 ?_
  rintro args ⟨a, l, hl0, hl1, rfl⟩ hwf
  have wa : WfD T (.l 3) (.l a) := arg0 hwf (List.mem_singleton_self _)
  clear hwf
  have la := wa.len
  refine ⟨by simp, ?_⟩
  rw [Tryz.results127]
  repeat' first
    | (refine And.intro ?_ ?_)
    | (intro h; cases h)
    | (intro h; rw [h])
    | (intro h)
  all_goals first
    | (show lowEdges _ = true; kernel_rfl) | (show logOk _ _ = true; kernel_rfl) | trivial | exact Or.inr rfl | exact Or.inl rfl
    | (refine resI ?_; have h := sub_no ‹_› hl0 hl1 la; have := szR_lt (l := l) (w := wRow (csD [.sl false 3 a])) (by rw [wRow_sl]; omega); exact this.symm)
    | skip
  have hz : wRows a = 0 := wRows_zero (cts := [.i .i64]) (fun k hk => wa.row rfl hk) (fun r hr => by
    rw [← wRow_rowC hr]
    simp [csD, CV.d, rowC, ofD, argG, List.zipIdx, List.map, wRow, wD, sub, List.range, List.range.loop, Nat.reduceAdd])
  obtain ⟨hb, he⟩ := sub_yes ‹_› hl0 hl1 la
  refine resI (he.trans ?_)
  rw [szR_ge (by rw [wRow_sl, hz]; omega), wRow_sl, hz]
  simp
/-- laws.szOriginS -/
theorem ok197 : FOk Tryz.prog T 197 (szS 254) := by
  refine fok (env := envL []) (N := 12) tabT envL_nil mixed Tryz.func197 rfl Tryz.call197 Tryz.ntmps197 ?_
  rintro args ⟨a, l, hl0, hl1, rfl⟩ hwf
  have wa : WfD T (.l 254) (.l a) := arg0 hwf (List.mem_singleton_self _)
  clear hwf
  have la := wa.len
  refine ⟨by simp, ?_⟩
  rw [Tryz.results197]
  repeat' first
    | (refine And.intro ?_ ?_)
    | (intro h; cases h)
    | (intro h; rw [h])
    | (intro h)
  all_goals first
    | (show lowEdges _ = true; kernel_rfl) | (show logOk _ _ = true; kernel_rfl) | trivial | exact Or.inr rfl | exact Or.inl rfl
    | (refine resI ?_; have h := sub_no ‹_› hl0 hl1 la; have := szR_lt (l := l) (w := wRow (csD [.sl false 254 a])) (by rw [wRow_sl]; omega); exact this.symm)
    | skip
  have hz : wRows a = 0 := wRows_zero (cts := [.i .i64, .i .i64]) (fun k hk => wa.row rfl hk) (fun r hr => by
    rw [← wRow_rowC hr]
    simp [csD, CV.d, rowC, ofD, argG, List.zipIdx, List.map, wRow, wD, sub, List.range, List.range.loop, Nat.reduceAdd])
  obtain ⟨hb, he⟩ := sub_yes ‹_› hl0 hl1 la
  refine resI (he.trans ?_)
  rw [szR_ge (by rw [wRow_sl, hz]; omega), wRow_sl, hz]
  simp
/-- laws.szRow -/
theorem ok182 : FOk Tryz.prog T 182 (szG [.l 3, .l 254]) := by
  refine fok (env := envL [(127, (szS 3)), (197, (szS 254))]) (N := 18) tabT (envL_cons ok127 (envL_cons ok197 envL_nil)) mixed Tryz.func182 rfl Tryz.call182 Tryz.ntmps182 ?_
  rintro args ⟨a, l, wa, hl0, hl1, rfl⟩ hwf
  refine ⟨by simp, ?_⟩
  clear hwf
  rw [Tryz.results182]
  repeat' first
    | (refine And.intro ?_ ?_)
    | (intro h; cases h)
    | (intro h; rw [h])
    | (intro h)
  all_goals first
    | (show lowEdges _ = true; kernel_rfl) | (show logOk _ _ = true; kernel_rfl) | trivial | exact Or.inr rfl | exact Or.inl rfl
    | exact ⟨_, _, by first | omega | (simp only [szR, wRow_sl, decide_eq_true_eq, decide_eq_false_iff_not, IntKind.wrap_i64, maxLen, Nat.reduceAdd] at *; omega), by first | omega | (simp only [szR, wRow_sl, decide_eq_true_eq, decide_eq_false_iff_not, IntKind.wrap_i64, maxLen, Nat.reduceAdd] at *; omega), rfl⟩
    | exact ⟨_, _, Nat.lt_of_lt_of_le (size_cell (by rw [wa.1]; decide)) (Nat.le_of_lt_succ hs), by first | omega | (simp only [szR, wRow_sl, decide_eq_true_eq, decide_eq_false_iff_not, IntKind.wrap_i64, maxLen, Nat.reduceAdd] at *; omega), by first | omega | (simp only [szR, wRow_sl, decide_eq_true_eq, decide_eq_false_iff_not, IntKind.wrap_i64, maxLen, Nat.reduceAdd] at *; omega), rfl⟩
    | exact ⟨sub a 0 1, _, wa.sub 0 1 (by decide), by first | omega | (simp only [szR, wRow_sl, decide_eq_true_eq, decide_eq_false_iff_not, IntKind.wrap_i64, maxLen, Nat.reduceAdd] at *; omega), by first | omega | (simp only [szR, wRow_sl, decide_eq_true_eq, decide_eq_false_iff_not, IntKind.wrap_i64, maxLen, Nat.reduceAdd] at *; omega), rfl⟩ | exact ⟨sub a 1 1, _, wa.sub 1 1 (by decide), by first | omega | (simp only [szR, wRow_sl, decide_eq_true_eq, decide_eq_false_iff_not, IntKind.wrap_i64, maxLen, Nat.reduceAdd] at *; omega), by first | omega | (simp only [szR, wRow_sl, decide_eq_true_eq, decide_eq_false_iff_not, IntKind.wrap_i64, maxLen, Nat.reduceAdd] at *; omega), rfl⟩
    | (refine resI ?_; simp only [csD, CV.d, rowC, ofD, argG, List.zipIdx, List.map, wRow, wD, sub, List.range, List.range.loop, Nat.reduceAdd]; simp only [csD, CV.d, rowC, ofD, argG, List.zipIdx, List.map, wRow, wD, sub, List.range, List.range.loop, Nat.reduceAdd, szR, wRow_sl, decide_eq_true_eq, decide_eq_false_iff_not, IntKind.wrap_i64, maxLen] at *; omega)
/-- laws.szRowS -/
theorem ok165 : FOk Tryz.prog T 165 (szS 234) := by
  refine fok (env := envL [(182, (szG [.l 3, .l 254]))]) (N := 27) tabT (envL_cons ok182 envL_nil) mixed Tryz.func165 rfl Tryz.call165 Tryz.ntmps165 ?_
  rintro args ⟨a, l, hl0, hl1, rfl⟩ hwf
  have wa : WfD T (.l 234) (.l a) := arg0 hwf (List.mem_singleton_self _)
  clear hwf
  have la := wa.len
  refine ⟨by simp, ?_⟩
  rw [Tryz.results165]
  repeat' first
    | (refine And.intro ?_ ?_)
    | (intro h; cases h)
    | (intro h; rw [h])
    | (intro h)
  all_goals first
    | (show lowEdges _ = true; kernel_rfl) | (show logOk _ _ = true; kernel_rfl) | trivial | exact Or.inr rfl | exact Or.inl rfl
    | (refine resI ?_; have h := sub_no ‹_› hl0 hl1 la; have := szR_lt (l := l) (w := wRow (csD [.sl false 234 a])) (by rw [wRow_sl]; omega); exact this.symm)
    | skip
  obtain ⟨hb, he⟩ := sub_yes ‹_› hl0 hl1 la
  refine awp_loop (Q := _) [0, 1, 5] [] (fun n s => ∃ i : Int, s = ([argS 234 a, .val false [.i .i64 (l - a.length - wRows (a.take i.toNat))], .val false [.i .i64 i]], []) ∧ 0 ≤ i ∧ i ≤ a.length ∧ n = a.length - i.toNat ∧ 0 ≤ l - a.length - wRows (a.take i.toNat)) ?_ ?_
  · exact ⟨rfl, a.length - 0, 0, congrArg (fun z : Int => (([argS 234 a, .val false [.i .i64 z], .val false [.i .i64 0]], []) : Snap)) (by rw [he]; simp [wRows]), by omega, by omega, rfl, by simp [wRows]; omega⟩
  rintro n s ⟨i, rfl, h1, h2, h3, h4⟩
  repeat' first
    | (refine And.intro ?_ ?_)
    | (intro h; cases h)
    | (intro h; rw [h])
    | (intro h)
  all_goals first
    | (show lowEdges _ = true; kernel_rfl) | (show logOk _ _ = true; kernel_rfl) | trivial | exact Or.inr rfl | exact Or.inl rfl
    | omega
    | exact of_decide_eq_true ‹_›
    | (have hA := wRows_all h1 h2 ‹_›
       refine resI ?_
       have := szR_ge (l := l) (w := wRow (csD [.sl false 234 a])) (by rw [wRow_sl]; omega)
       rw [this, wRow_sl, hA]; omega)
    | skip
  all_goals
    have hi : i < (a.length : Int) := of_decide_eq_true ‹decide (i < (a.length : Int)) = true›
    have wr : WfRow T [.l 3, .l 254] (a.getD i.toNat []) := wa.row rfl (by omega)
    have hnx := wRows_next h1 hi
    have hle := wRows_le a (i + 1).toNat
    have hrow : wRow (a.getD i.toNat []) = wRow (csD (rowC [.l 3, .l 254] (a.getD i.toNat []))) := (wRow_rowC wr).symm
    first
      | exact ⟨_, _, wr, by omega, by omega, rfl⟩
      | exact ⟨_, _, wr, Nat.lt_of_lt_of_le (size_row (by omega)) (Nat.le_of_lt_succ hs), by omega, by omega, rfl⟩
      | (refine resI ?_
         have hw := szR_no (‹decide (szR (l - a.length - wRows (a.take i.toNat)) (wRow (csD (rowC [.l 3, .l 254] (a.getD i.toNat [])))) < 0) = true›) h4
         have := szR_lt (l := l) (w := wRow (csD [.sl false 234 a])) (by rw [wRow_sl]; omega)
         exact this.symm)
      | (obtain ⟨hw, hv⟩ := szR_yes (‹decide (szR (l - a.length - wRows (a.take i.toNat)) (wRow (csD (rowC [.l 3, .l 254] (a.getD i.toNat [])))) < 0) = false›)
         refine ⟨a.length - (i + 1).toNat, by omega, i + 1, ?_, by omega, by omega, rfl, by omega⟩
         have e2 : szR (l - a.length - wRows (a.take i.toNat)) (wRow (csD (rowC [.l 3, .l 254] (a.getD i.toNat [])))) = l - a.length - wRows (a.take (i + 1).toNat) := hv.trans (by omega)
         have e3 := wrap_next h1 hi la
         exact (congrArg (fun z : Int => (([argS 234 a, .val false [.i .i64 (szR (l - a.length - wRows (a.take i.toNat)) (wRow (csD (rowC [.l 3, .l 254] (a.getD i.toNat [])))))], .val false [.i .i64 z]], []) : Snap)) e3).trans (congrArg (fun z : Int => (([argS 234 a, .val false [.i .i64 z], .val false [.i .i64 (i + 1)]], []) : Snap)) e2))
/-- laws.szValue -/
theorem step128 (n : Nat) (hn : FOk Tryz.prog T 163 (szSn 144 n)) : FOk Tryz.prog T 128 (szGn [.i .i64, .i .i64, .i .i64, .s, .l 144, .l 9, .l 234] (n + 1)) := by
  refine fok (env := envL [(163, (szSn 144 n)), (164, (szS 9)), (165, (szS 234))]) (N := 31) tabT (envL_cons hn (envL_cons ok164 (envL_cons ok165 envL_nil))) mixed Tryz.func128 rfl Tryz.call128 Tryz.ntmps128 ?_
  rintro args ⟨a, l, wa, hs, hl0, hl1, rfl⟩ hwf
  refine ⟨by simp, ?_⟩
  clear hwf
  have hs3 := wa.str (j := 3) rfl
  rw [Tryz.results128]
  repeat' first
    | (refine And.intro ?_ ?_)
    | (intro h; cases h)
    | (intro h; rw [h])
    | (intro h)
  all_goals first
    | (show lowEdges _ = true; kernel_rfl) | (show logOk _ _ = true; kernel_rfl) | trivial | exact Or.inr rfl | exact Or.inl rfl
    | exact ⟨_, _, by first | omega | (simp only [szR, wRow_sl, decide_eq_true_eq, decide_eq_false_iff_not, IntKind.wrap_i64, maxLen, Nat.reduceAdd] at *; omega), by first | omega | (simp only [szR, wRow_sl, decide_eq_true_eq, decide_eq_false_iff_not, IntKind.wrap_i64, maxLen, Nat.reduceAdd] at *; omega), rfl⟩
    | exact ⟨_, _, Nat.lt_of_lt_of_le (size_cell (by rw [wa.1]; decide)) (Nat.le_of_lt_succ hs), by first | omega | (simp only [szR, wRow_sl, decide_eq_true_eq, decide_eq_false_iff_not, IntKind.wrap_i64, maxLen, Nat.reduceAdd] at *; omega), by first | omega | (simp only [szR, wRow_sl, decide_eq_true_eq, decide_eq_false_iff_not, IntKind.wrap_i64, maxLen, Nat.reduceAdd] at *; omega), rfl⟩
    | exact ⟨sub a 0 1, _, wa.sub 0 1 (by decide), by first | omega | (simp only [szR, wRow_sl, decide_eq_true_eq, decide_eq_false_iff_not, IntKind.wrap_i64, maxLen, Nat.reduceAdd] at *; omega), by first | omega | (simp only [szR, wRow_sl, decide_eq_true_eq, decide_eq_false_iff_not, IntKind.wrap_i64, maxLen, Nat.reduceAdd] at *; omega), rfl⟩ | exact ⟨sub a 1 1, _, wa.sub 1 1 (by decide), by first | omega | (simp only [szR, wRow_sl, decide_eq_true_eq, decide_eq_false_iff_not, IntKind.wrap_i64, maxLen, Nat.reduceAdd] at *; omega), by first | omega | (simp only [szR, wRow_sl, decide_eq_true_eq, decide_eq_false_iff_not, IntKind.wrap_i64, maxLen, Nat.reduceAdd] at *; omega), rfl⟩ | exact ⟨sub a 2 1, _, wa.sub 2 1 (by decide), by first | omega | (simp only [szR, wRow_sl, decide_eq_true_eq, decide_eq_false_iff_not, IntKind.wrap_i64, maxLen, Nat.reduceAdd] at *; omega), by first | omega | (simp only [szR, wRow_sl, decide_eq_true_eq, decide_eq_false_iff_not, IntKind.wrap_i64, maxLen, Nat.reduceAdd] at *; omega), rfl⟩ | exact ⟨sub a 3 1, _, wa.sub 3 1 (by decide), by first | omega | (simp only [szR, wRow_sl, decide_eq_true_eq, decide_eq_false_iff_not, IntKind.wrap_i64, maxLen, Nat.reduceAdd] at *; omega), by first | omega | (simp only [szR, wRow_sl, decide_eq_true_eq, decide_eq_false_iff_not, IntKind.wrap_i64, maxLen, Nat.reduceAdd] at *; omega), rfl⟩ | exact ⟨sub a 4 1, _, wa.sub 4 1 (by decide), by first | omega | (simp only [szR, wRow_sl, decide_eq_true_eq, decide_eq_false_iff_not, IntKind.wrap_i64, maxLen, Nat.reduceAdd] at *; omega), by first | omega | (simp only [szR, wRow_sl, decide_eq_true_eq, decide_eq_false_iff_not, IntKind.wrap_i64, maxLen, Nat.reduceAdd] at *; omega), rfl⟩ | exact ⟨sub a 5 1, _, wa.sub 5 1 (by decide), by first | omega | (simp only [szR, wRow_sl, decide_eq_true_eq, decide_eq_false_iff_not, IntKind.wrap_i64, maxLen, Nat.reduceAdd] at *; omega), by first | omega | (simp only [szR, wRow_sl, decide_eq_true_eq, decide_eq_false_iff_not, IntKind.wrap_i64, maxLen, Nat.reduceAdd] at *; omega), rfl⟩ | exact ⟨sub a 6 1, _, wa.sub 6 1 (by decide), by first | omega | (simp only [szR, wRow_sl, decide_eq_true_eq, decide_eq_false_iff_not, IntKind.wrap_i64, maxLen, Nat.reduceAdd] at *; omega), by first | omega | (simp only [szR, wRow_sl, decide_eq_true_eq, decide_eq_false_iff_not, IntKind.wrap_i64, maxLen, Nat.reduceAdd] at *; omega), rfl⟩
    | (refine resI ?_; simp only [csD, CV.d, rowC, ofD, argG, List.zipIdx, List.map, wRow, wD, sub, List.range, List.range.loop, Nat.reduceAdd]; simp only [csD, CV.d, rowC, ofD, argG, List.zipIdx, List.map, wRow, wD, sub, List.range, List.range.loop, Nat.reduceAdd, szR, wRow_sl, decide_eq_true_eq, decide_eq_false_iff_not, IntKind.wrap_i64, maxLen] at *; omega)
/-- laws.szValueS -/
theorem step163 (n : Nat) (hn : FOk Tryz.prog T 128 (szGn [.i .i64, .i .i64, .i .i64, .s, .l 144, .l 9, .l 234] n)) : FOk Tryz.prog T 163 (szSn 144 (n + 1)) := by
  refine fok (env := envL [(128, (szGn [.i .i64, .i .i64, .i .i64, .s, .l 144, .l 9, .l 234] n))]) (N := 27) tabT (envL_cons hn envL_nil) mixed Tryz.func163 rfl Tryz.call163 Tryz.ntmps163 ?_
  rintro args ⟨a, l, hs, hl0, hl1, rfl⟩ hwf
  have wa : WfD T (.l 144) (.l a) := arg0 hwf (List.mem_singleton_self _)
  clear hwf
  have la := wa.len
  refine ⟨by simp, ?_⟩
  rw [Tryz.results163]
  repeat' first
    | (refine And.intro ?_ ?_)
    | (intro h; cases h)
    | (intro h; rw [h])
    | (intro h)
  all_goals first
    | (show lowEdges _ = true; kernel_rfl) | (show logOk _ _ = true; kernel_rfl) | trivial | exact Or.inr rfl | exact Or.inl rfl
    | (refine resI ?_; have h := sub_no ‹_› hl0 hl1 la; have := szR_lt (l := l) (w := wRow (csD [.sl false 144 a])) (by rw [wRow_sl]; omega); exact this.symm)
    | skip
  obtain ⟨hb, he⟩ := sub_yes ‹_› hl0 hl1 la
  refine awp_loop (Q := _) [0, 1, 5] [] (fun n s => ∃ i : Int, s = ([argS 144 a, .val false [.i .i64 (l - a.length - wRows (a.take i.toNat))], .val false [.i .i64 i]], []) ∧ 0 ≤ i ∧ i ≤ a.length ∧ n = a.length - i.toNat ∧ 0 ≤ l - a.length - wRows (a.take i.toNat)) ?_ ?_
  · exact ⟨rfl, a.length - 0, 0, congrArg (fun z : Int => (([argS 144 a, .val false [.i .i64 z], .val false [.i .i64 0]], []) : Snap)) (by rw [he]; simp [wRows]), by omega, by omega, rfl, by simp [wRows]; omega⟩
  rintro n s ⟨i, rfl, h1, h2, h3, h4⟩
  repeat' first
    | (refine And.intro ?_ ?_)
    | (intro h; cases h)
    | (intro h; rw [h])
    | (intro h)
  all_goals first
    | (show lowEdges _ = true; kernel_rfl) | (show logOk _ _ = true; kernel_rfl) | trivial | exact Or.inr rfl | exact Or.inl rfl
    | omega
    | exact of_decide_eq_true ‹_›
    | (have hA := wRows_all h1 h2 ‹_›
       refine resI ?_
       have := szR_ge (l := l) (w := wRow (csD [.sl false 144 a])) (by rw [wRow_sl]; omega)
       rw [this, wRow_sl, hA]; omega)
    | skip
  all_goals
    have hi : i < (a.length : Int) := of_decide_eq_true ‹decide (i < (a.length : Int)) = true›
    have wr : WfRow T [.i .i64, .i .i64, .i .i64, .s, .l 144, .l 9, .l 234] (a.getD i.toNat []) := wa.row rfl (by omega)
    have hnx := wRows_next h1 hi
    have hle := wRows_le a (i + 1).toNat
    have hrow : wRow (a.getD i.toNat []) = wRow (csD (rowC [.i .i64, .i .i64, .i .i64, .s, .l 144, .l 9, .l 234] (a.getD i.toNat []))) := (wRow_rowC wr).symm
    first
      | exact ⟨_, _, wr, by omega, by omega, rfl⟩
      | exact ⟨_, _, wr, Nat.lt_of_lt_of_le (size_row (by omega)) (Nat.le_of_lt_succ hs), by omega, by omega, rfl⟩
      | (refine resI ?_
         have hw := szR_no (‹decide (szR (l - a.length - wRows (a.take i.toNat)) (wRow (csD (rowC [.i .i64, .i .i64, .i .i64, .s, .l 144, .l 9, .l 234] (a.getD i.toNat [])))) < 0) = true›) h4
         have := szR_lt (l := l) (w := wRow (csD [.sl false 144 a])) (by rw [wRow_sl]; omega)
         exact this.symm)
      | (obtain ⟨hw, hv⟩ := szR_yes (‹decide (szR (l - a.length - wRows (a.take i.toNat)) (wRow (csD (rowC [.i .i64, .i .i64, .i .i64, .s, .l 144, .l 9, .l 234] (a.getD i.toNat [])))) < 0) = false›)
         refine ⟨a.length - (i + 1).toNat, by omega, i + 1, ?_, by omega, by omega, rfl, by omega⟩
         have e2 : szR (l - a.length - wRows (a.take i.toNat)) (wRow (csD (rowC [.i .i64, .i .i64, .i .i64, .s, .l 144, .l 9, .l 234] (a.getD i.toNat [])))) = l - a.length - wRows (a.take (i + 1).toNat) := hv.trans (by omega)
         have e3 := wrap_next h1 hi la
         exact (congrArg (fun z : Int => (([argS 144 a, .val false [.i .i64 (szR (l - a.length - wRows (a.take i.toNat)) (wRow (csD (rowC [.i .i64, .i .i64, .i .i64, .s, .l 144, .l 9, .l 234] (a.getD i.toNat [])))))], .val false [.i .i64 z]], []) : Snap)) e3).trans (congrArg (fun z : Int => (([argS 144 a, .val false [.i .i64 z], .val false [.i .i64 (i + 1)]], []) : Snap)) e2))
theorem zero128 : FOk Tryz.prog T 128 (szGn [.i .i64, .i .i64, .i .i64, .s, .l 144, .l 9, .l 234] 0) := by
  refine fok (env := envL []) (N := 31) tabT envL_nil mixed Tryz.func128 rfl Tryz.call128 Tryz.ntmps128 ?_
  rintro args ⟨a, l, wa, hs, hl0, hl1, rfl⟩ _
  exact absurd hs (Nat.not_lt_zero _)
theorem zero163 : FOk Tryz.prog T 163 (szSn 144 0) := by
  refine fok (env := envL []) (N := 27) tabT envL_nil mixed Tryz.func163 rfl Tryz.call163 Tryz.ntmps163 ?_
  rintro args ⟨a, l, hs, hl0, hl1, rfl⟩ _
  exact absurd hs (Nat.not_lt_zero _)
theorem both128 (n : Nat) : FOk Tryz.prog T 128 (szGn [.i .i64, .i .i64, .i .i64, .s, .l 144, .l 9, .l 234] n) ∧ FOk Tryz.prog T 163 (szSn 144 n) := by
  induction n with
  | zero => exact ⟨zero128, zero163⟩
  | succ n ih => exact ⟨step128 n ih.2, step163 n ih.1⟩
theorem ok128 : FOk Tryz.prog T 128 (szG [.i .i64, .i .i64, .i .i64, .s, .l 144, .l 9, .l 234]) := FOk.lift (s := fun n => (szGn [.i .i64, .i .i64, .i .i64, .s, .l 144, .l 9, .l 234] n)) (fun n => (both128 n).1) (fun args ⟨a, l, wa, h0, h1, h⟩ => ⟨SizeOf.sizeOf a + 1, a, l, wa, Nat.lt_succ_self _, h0, h1, h⟩) (fun n => rfl)
theorem ok163 : FOk Tryz.prog T 163 (szS 144) := FOk.lift (s := fun n => (szSn 144 n)) (fun n => (both128 n).2) (fun args ⟨a, l, h0, h1, h⟩ => ⟨SizeOf.sizeOf a + 1, a, l, Nat.lt_succ_self _, h0, h1, h⟩) (fun n => rfl)
/-- laws.szRead -/
theorem ok162 : FOk Tryz.prog T 162 (szG [.i .i64, .i .i64, .i .i64, .s, .i .i64, .i .i64, .i .i64, .s, .l 144, .l 9, .l 234]) := by
  refine fok (env := envL [(128, (szG [.i .i64, .i .i64, .i .i64, .s, .l 144, .l 9, .l 234]))]) (N := 19) tabT (envL_cons ok128 envL_nil) mixed Tryz.func162 rfl Tryz.call162 Tryz.ntmps162 ?_
  rintro args ⟨a, l, wa, hl0, hl1, rfl⟩ hwf
  refine ⟨by simp, ?_⟩
  clear hwf
  have hs3 := wa.str (j := 3) rfl
  have hs7 := wa.str (j := 7) rfl
  rw [Tryz.results162]
  repeat' first
    | (refine And.intro ?_ ?_)
    | (intro h; cases h)
    | (intro h; rw [h])
    | (intro h)
  all_goals first
    | (show lowEdges _ = true; kernel_rfl) | (show logOk _ _ = true; kernel_rfl) | trivial | exact Or.inr rfl | exact Or.inl rfl
    | exact ⟨_, _, by first | omega | (simp only [szR, wRow_sl, decide_eq_true_eq, decide_eq_false_iff_not, IntKind.wrap_i64, maxLen, Nat.reduceAdd] at *; omega), by first | omega | (simp only [szR, wRow_sl, decide_eq_true_eq, decide_eq_false_iff_not, IntKind.wrap_i64, maxLen, Nat.reduceAdd] at *; omega), rfl⟩
    | exact ⟨_, _, Nat.lt_of_lt_of_le (size_cell (by rw [wa.1]; decide)) (Nat.le_of_lt_succ hs), by first | omega | (simp only [szR, wRow_sl, decide_eq_true_eq, decide_eq_false_iff_not, IntKind.wrap_i64, maxLen, Nat.reduceAdd] at *; omega), by first | omega | (simp only [szR, wRow_sl, decide_eq_true_eq, decide_eq_false_iff_not, IntKind.wrap_i64, maxLen, Nat.reduceAdd] at *; omega), rfl⟩
    | exact ⟨sub a 0 1, _, wa.sub 0 1 (by decide), by first | omega | (simp only [szR, wRow_sl, decide_eq_true_eq, decide_eq_false_iff_not, IntKind.wrap_i64, maxLen, Nat.reduceAdd] at *; omega), by first | omega | (simp only [szR, wRow_sl, decide_eq_true_eq, decide_eq_false_iff_not, IntKind.wrap_i64, maxLen, Nat.reduceAdd] at *; omega), rfl⟩ | exact ⟨sub a 1 1, _, wa.sub 1 1 (by decide), by first | omega | (simp only [szR, wRow_sl, decide_eq_true_eq, decide_eq_false_iff_not, IntKind.wrap_i64, maxLen, Nat.reduceAdd] at *; omega), by first | omega | (simp only [szR, wRow_sl, decide_eq_true_eq, decide_eq_false_iff_not, IntKind.wrap_i64, maxLen, Nat.reduceAdd] at *; omega), rfl⟩ | exact ⟨sub a 2 1, _, wa.sub 2 1 (by decide), by first | omega | (simp only [szR, wRow_sl, decide_eq_true_eq, decide_eq_false_iff_not, IntKind.wrap_i64, maxLen, Nat.reduceAdd] at *; omega), by first | omega | (simp only [szR, wRow_sl, decide_eq_true_eq, decide_eq_false_iff_not, IntKind.wrap_i64, maxLen, Nat.reduceAdd] at *; omega), rfl⟩ | exact ⟨sub a 3 1, _, wa.sub 3 1 (by decide), by first | omega | (simp only [szR, wRow_sl, decide_eq_true_eq, decide_eq_false_iff_not, IntKind.wrap_i64, maxLen, Nat.reduceAdd] at *; omega), by first | omega | (simp only [szR, wRow_sl, decide_eq_true_eq, decide_eq_false_iff_not, IntKind.wrap_i64, maxLen, Nat.reduceAdd] at *; omega), rfl⟩ | exact ⟨sub a 4 7, _, wa.sub 4 7 (by decide), by first | omega | (simp only [szR, wRow_sl, decide_eq_true_eq, decide_eq_false_iff_not, IntKind.wrap_i64, maxLen, Nat.reduceAdd] at *; omega), by first | omega | (simp only [szR, wRow_sl, decide_eq_true_eq, decide_eq_false_iff_not, IntKind.wrap_i64, maxLen, Nat.reduceAdd] at *; omega), rfl⟩
    | (refine resI ?_; simp only [csD, CV.d, rowC, ofD, argG, List.zipIdx, List.map, wRow, wD, sub, List.range, List.range.loop, Nat.reduceAdd]; simp only [csD, CV.d, rowC, ofD, argG, List.zipIdx, List.map, wRow, wD, sub, List.range, List.range.loop, Nat.reduceAdd, szR, wRow_sl, decide_eq_true_eq, decide_eq_false_iff_not, IntKind.wrap_i64, maxLen] at *; omega)
/-- laws.szReadS -/
theorem ok126 : FOk Tryz.prog T 126 (szS 210) := by
  refine fok (env := envL [(162, (szG [.i .i64, .i .i64, .i .i64, .s, .i .i64, .i .i64, .i .i64, .s, .l 144, .l 9, .l 234]))]) (N := 27) tabT (envL_cons ok162 envL_nil) mixed Tryz.func126 rfl Tryz.call126 Tryz.ntmps126 ?_
  rintro args ⟨a, l, hl0, hl1, rfl⟩ hwf
  have wa : WfD T (.l 210) (.l a) := arg0 hwf (List.mem_singleton_self _)
  clear hwf
  have la := wa.len
  refine ⟨by simp, ?_⟩
  rw [Tryz.results126]
  repeat' first
    | (refine And.intro ?_ ?_)
    | (intro h; cases h)
    | (intro h; rw [h])
    | (intro h)
  all_goals first
    | (show lowEdges _ = true; kernel_rfl) | (show logOk _ _ = true; kernel_rfl) | trivial | exact Or.inr rfl | exact Or.inl rfl
    | (refine resI ?_; have h := sub_no ‹_› hl0 hl1 la; have := szR_lt (l := l) (w := wRow (csD [.sl false 210 a])) (by rw [wRow_sl]; omega); exact this.symm)
    | skip
  obtain ⟨hb, he⟩ := sub_yes ‹_› hl0 hl1 la
  refine awp_loop (Q := _) [0, 1, 5] [] (fun n s => ∃ i : Int, s = ([argS 210 a, .val false [.i .i64 (l - a.length - wRows (a.take i.toNat))], .val false [.i .i64 i]], []) ∧ 0 ≤ i ∧ i ≤ a.length ∧ n = a.length - i.toNat ∧ 0 ≤ l - a.length - wRows (a.take i.toNat)) ?_ ?_
  · exact ⟨rfl, a.length - 0, 0, congrArg (fun z : Int => (([argS 210 a, .val false [.i .i64 z], .val false [.i .i64 0]], []) : Snap)) (by rw [he]; simp [wRows]), by omega, by omega, rfl, by simp [wRows]; omega⟩
  rintro n s ⟨i, rfl, h1, h2, h3, h4⟩
  repeat' first
    | (refine And.intro ?_ ?_)
    | (intro h; cases h)
    | (intro h; rw [h])
    | (intro h)
  all_goals first
    | (show lowEdges _ = true; kernel_rfl) | (show logOk _ _ = true; kernel_rfl) | trivial | exact Or.inr rfl | exact Or.inl rfl
    | omega
    | exact of_decide_eq_true ‹_›
    | (have hA := wRows_all h1 h2 ‹_›
       refine resI ?_
       have := szR_ge (l := l) (w := wRow (csD [.sl false 210 a])) (by rw [wRow_sl]; omega)
       rw [this, wRow_sl, hA]; omega)
    | skip
  all_goals
    have hi : i < (a.length : Int) := of_decide_eq_true ‹decide (i < (a.length : Int)) = true›
    have wr : WfRow T [.i .i64, .i .i64, .i .i64, .s, .i .i64, .i .i64, .i .i64, .s, .l 144, .l 9, .l 234] (a.getD i.toNat []) := wa.row rfl (by omega)
    have hnx := wRows_next h1 hi
    have hle := wRows_le a (i + 1).toNat
    have hrow : wRow (a.getD i.toNat []) = wRow (csD (rowC [.i .i64, .i .i64, .i .i64, .s, .i .i64, .i .i64, .i .i64, .s, .l 144, .l 9, .l 234] (a.getD i.toNat []))) := (wRow_rowC wr).symm
    first
      | exact ⟨_, _, wr, by omega, by omega, rfl⟩
      | exact ⟨_, _, wr, Nat.lt_of_lt_of_le (size_row (by omega)) (Nat.le_of_lt_succ hs), by omega, by omega, rfl⟩
      | (refine resI ?_
         have hw := szR_no (‹decide (szR (l - a.length - wRows (a.take i.toNat)) (wRow (csD (rowC [.i .i64, .i .i64, .i .i64, .s, .i .i64, .i .i64, .i .i64, .s, .l 144, .l 9, .l 234] (a.getD i.toNat [])))) < 0) = true›) h4
         have := szR_lt (l := l) (w := wRow (csD [.sl false 210 a])) (by rw [wRow_sl]; omega)
         exact this.symm)
      | (obtain ⟨hw, hv⟩ := szR_yes (‹decide (szR (l - a.length - wRows (a.take i.toNat)) (wRow (csD (rowC [.i .i64, .i .i64, .i .i64, .s, .i .i64, .i .i64, .i .i64, .s, .l 144, .l 9, .l 234] (a.getD i.toNat [])))) < 0) = false›)
         refine ⟨a.length - (i + 1).toNat, by omega, i + 1, ?_, by omega, by omega, rfl, by omega⟩
         have e2 : szR (l - a.length - wRows (a.take i.toNat)) (wRow (csD (rowC [.i .i64, .i .i64, .i .i64, .s, .i .i64, .i .i64, .i .i64, .s, .l 144, .l 9, .l 234] (a.getD i.toNat [])))) = l - a.length - wRows (a.take (i + 1).toNat) := hv.trans (by omega)
         have e3 := wrap_next h1 hi la
         exact (congrArg (fun z : Int => (([argS 210 a, .val false [.i .i64 (szR (l - a.length - wRows (a.take i.toNat)) (wRow (csD (rowC [.i .i64, .i .i64, .i .i64, .s, .i .i64, .i .i64, .i .i64, .s, .l 144, .l 9, .l 234] (a.getD i.toNat [])))))], .val false [.i .i64 z]], []) : Snap)) e3).trans (congrArg (fun z : Int => (([argS 210 a, .val false [.i .i64 z], .val false [.i .i64 (i + 1)]], []) : Snap)) e2))
/-- laws.szTape -/
theorem ok91 : FOk Tryz.prog T 91 (szG [.i .i64, .i .i64, .l 210]) := by
  refine fok (env := envL [(126, (szS 210))]) (N := 12) tabT (envL_cons ok126 envL_nil) mixed Tryz.func91 rfl Tryz.call91 Tryz.ntmps91 ?_
  rintro args ⟨a, l, wa, hl0, hl1, rfl⟩ hwf
  refine ⟨by simp, ?_⟩
  clear hwf
  rw [Tryz.results91]
  repeat' first
    | (refine And.intro ?_ ?_)
    | (intro h; cases h)
    | (intro h; rw [h])
    | (intro h)
  all_goals first
    | (show lowEdges _ = true; kernel_rfl) | (show logOk _ _ = true; kernel_rfl) | trivial | exact Or.inr rfl | exact Or.inl rfl
    | exact ⟨_, _, by first | omega | (simp only [szR, wRow_sl, decide_eq_true_eq, decide_eq_false_iff_not, IntKind.wrap_i64, maxLen, Nat.reduceAdd] at *; omega), by first | omega | (simp only [szR, wRow_sl, decide_eq_true_eq, decide_eq_false_iff_not, IntKind.wrap_i64, maxLen, Nat.reduceAdd] at *; omega), rfl⟩
    | exact ⟨_, _, Nat.lt_of_lt_of_le (size_cell (by rw [wa.1]; decide)) (Nat.le_of_lt_succ hs), by first | omega | (simp only [szR, wRow_sl, decide_eq_true_eq, decide_eq_false_iff_not, IntKind.wrap_i64, maxLen, Nat.reduceAdd] at *; omega), by first | omega | (simp only [szR, wRow_sl, decide_eq_true_eq, decide_eq_false_iff_not, IntKind.wrap_i64, maxLen, Nat.reduceAdd] at *; omega), rfl⟩
    | exact ⟨sub a 0 1, _, wa.sub 0 1 (by decide), by first | omega | (simp only [szR, wRow_sl, decide_eq_true_eq, decide_eq_false_iff_not, IntKind.wrap_i64, maxLen, Nat.reduceAdd] at *; omega), by first | omega | (simp only [szR, wRow_sl, decide_eq_true_eq, decide_eq_false_iff_not, IntKind.wrap_i64, maxLen, Nat.reduceAdd] at *; omega), rfl⟩ | exact ⟨sub a 1 1, _, wa.sub 1 1 (by decide), by first | omega | (simp only [szR, wRow_sl, decide_eq_true_eq, decide_eq_false_iff_not, IntKind.wrap_i64, maxLen, Nat.reduceAdd] at *; omega), by first | omega | (simp only [szR, wRow_sl, decide_eq_true_eq, decide_eq_false_iff_not, IntKind.wrap_i64, maxLen, Nat.reduceAdd] at *; omega), rfl⟩ | exact ⟨sub a 2 1, _, wa.sub 2 1 (by decide), by first | omega | (simp only [szR, wRow_sl, decide_eq_true_eq, decide_eq_false_iff_not, IntKind.wrap_i64, maxLen, Nat.reduceAdd] at *; omega), by first | omega | (simp only [szR, wRow_sl, decide_eq_true_eq, decide_eq_false_iff_not, IntKind.wrap_i64, maxLen, Nat.reduceAdd] at *; omega), rfl⟩
    | (refine resI ?_; simp only [csD, CV.d, rowC, ofD, argG, List.zipIdx, List.map, wRow, wD, sub, List.range, List.range.loop, Nat.reduceAdd]; simp only [csD, CV.d, rowC, ofD, argG, List.zipIdx, List.map, wRow, wD, sub, List.range, List.range.loop, Nat.reduceAdd, szR, wRow_sl, decide_eq_true_eq, decide_eq_false_iff_not, IntKind.wrap_i64, maxLen] at *; omega)
/-- laws.szTapeS -/
theorem ok47 : FOk Tryz.prog T 47 (szS 139) := by
  refine fok (env := envL [(91, (szG [.i .i64, .i .i64, .l 210]))]) (N := 27) tabT (envL_cons ok91 envL_nil) mixed Tryz.func47 rfl Tryz.call47 Tryz.ntmps47 ?_
  rintro args ⟨a, l, hl0, hl1, rfl⟩ hwf
  have wa : WfD T (.l 139) (.l a) := arg0 hwf (List.mem_singleton_self _)
  clear hwf
  have la := wa.len
  refine ⟨by simp, ?_⟩
  rw [Tryz.results47]
  repeat' first
    | (refine And.intro ?_ ?_)
    | (intro h; cases h)
    | (intro h; rw [h])
    | (intro h)
  all_goals first
    | (show lowEdges _ = true; kernel_rfl) | (show logOk _ _ = true; kernel_rfl) | trivial | exact Or.inr rfl | exact Or.inl rfl
    | (refine resI ?_; have h := sub_no ‹_› hl0 hl1 la; have := szR_lt (l := l) (w := wRow (csD [.sl false 139 a])) (by rw [wRow_sl]; omega); exact this.symm)
    | skip
  obtain ⟨hb, he⟩ := sub_yes ‹_› hl0 hl1 la
  refine awp_loop (Q := _) [0, 1, 5] [] (fun n s => ∃ i : Int, s = ([argS 139 a, .val false [.i .i64 (l - a.length - wRows (a.take i.toNat))], .val false [.i .i64 i]], []) ∧ 0 ≤ i ∧ i ≤ a.length ∧ n = a.length - i.toNat ∧ 0 ≤ l - a.length - wRows (a.take i.toNat)) ?_ ?_
  · exact ⟨rfl, a.length - 0, 0, congrArg (fun z : Int => (([argS 139 a, .val false [.i .i64 z], .val false [.i .i64 0]], []) : Snap)) (by rw [he]; simp [wRows]), by omega, by omega, rfl, by simp [wRows]; omega⟩
  rintro n s ⟨i, rfl, h1, h2, h3, h4⟩
  repeat' first
    | (refine And.intro ?_ ?_)
    | (intro h; cases h)
    | (intro h; rw [h])
    | (intro h)
  all_goals first
    | (show lowEdges _ = true; kernel_rfl) | (show logOk _ _ = true; kernel_rfl) | trivial | exact Or.inr rfl | exact Or.inl rfl
    | omega
    | exact of_decide_eq_true ‹_›
    | (have hA := wRows_all h1 h2 ‹_›
       refine resI ?_
       have := szR_ge (l := l) (w := wRow (csD [.sl false 139 a])) (by rw [wRow_sl]; omega)
       rw [this, wRow_sl, hA]; omega)
    | skip
  all_goals
    have hi : i < (a.length : Int) := of_decide_eq_true ‹decide (i < (a.length : Int)) = true›
    have wr : WfRow T [.i .i64, .i .i64, .l 210] (a.getD i.toNat []) := wa.row rfl (by omega)
    have hnx := wRows_next h1 hi
    have hle := wRows_le a (i + 1).toNat
    have hrow : wRow (a.getD i.toNat []) = wRow (csD (rowC [.i .i64, .i .i64, .l 210] (a.getD i.toNat []))) := (wRow_rowC wr).symm
    first
      | exact ⟨_, _, wr, by omega, by omega, rfl⟩
      | exact ⟨_, _, wr, Nat.lt_of_lt_of_le (size_row (by omega)) (Nat.le_of_lt_succ hs), by omega, by omega, rfl⟩
      | (refine resI ?_
         have hw := szR_no (‹decide (szR (l - a.length - wRows (a.take i.toNat)) (wRow (csD (rowC [.i .i64, .i .i64, .l 210] (a.getD i.toNat [])))) < 0) = true›) h4
         have := szR_lt (l := l) (w := wRow (csD [.sl false 139 a])) (by rw [wRow_sl]; omega)
         exact this.symm)
      | (obtain ⟨hw, hv⟩ := szR_yes (‹decide (szR (l - a.length - wRows (a.take i.toNat)) (wRow (csD (rowC [.i .i64, .i .i64, .l 210] (a.getD i.toNat [])))) < 0) = false›)
         refine ⟨a.length - (i + 1).toNat, by omega, i + 1, ?_, by omega, by omega, rfl, by omega⟩
         have e2 : szR (l - a.length - wRows (a.take i.toNat)) (wRow (csD (rowC [.i .i64, .i .i64, .l 210] (a.getD i.toNat [])))) = l - a.length - wRows (a.take (i + 1).toNat) := hv.trans (by omega)
         have e3 := wrap_next h1 hi la
         exact (congrArg (fun z : Int => (([argS 139 a, .val false [.i .i64 (szR (l - a.length - wRows (a.take i.toNat)) (wRow (csD (rowC [.i .i64, .i .i64, .l 210] (a.getD i.toNat [])))))], .val false [.i .i64 z]], []) : Snap)) e3).trans (congrArg (fun z : Int => (([argS 139 a, .val false [.i .i64 z], .val false [.i .i64 (i + 1)]], []) : Snap)) e2))
/-- laws.szEntry -/
theorem ok92 : FOk Tryz.prog T 92 (szG [.i .i64, .i .i64, .i .i64, .l 3, .i .i64, .i .i64, .i .i64, .s, .l 144, .l 9, .l 234, .b]) := by
  refine fok (env := envL [(127, (szS 3)), (128, (szG [.i .i64, .i .i64, .i .i64, .s, .l 144, .l 9, .l 234]))]) (N := 18) tabT (envL_cons ok127 (envL_cons ok128 envL_nil)) mixed Tryz.func92 rfl Tryz.call92 Tryz.ntmps92 ?_
  rintro args ⟨a, l, wa, hl0, hl1, rfl⟩ hwf
  refine ⟨by simp, ?_⟩
  clear hwf
  have hs7 := wa.str (j := 7) rfl
  rw [Tryz.results92]
  repeat' first
    | (refine And.intro ?_ ?_)
    | (intro h; cases h)
    | (intro h; rw [h])
    | (intro h)
  all_goals first
    | (show lowEdges _ = true; kernel_rfl) | (show logOk _ _ = true; kernel_rfl) | trivial | exact Or.inr rfl | exact Or.inl rfl
    | exact ⟨_, _, by first | omega | (simp only [szR, wRow_sl, decide_eq_true_eq, decide_eq_false_iff_not, IntKind.wrap_i64, maxLen, Nat.reduceAdd] at *; omega), by first | omega | (simp only [szR, wRow_sl, decide_eq_true_eq, decide_eq_false_iff_not, IntKind.wrap_i64, maxLen, Nat.reduceAdd] at *; omega), rfl⟩
    | exact ⟨_, _, Nat.lt_of_lt_of_le (size_cell (by rw [wa.1]; decide)) (Nat.le_of_lt_succ hs), by first | omega | (simp only [szR, wRow_sl, decide_eq_true_eq, decide_eq_false_iff_not, IntKind.wrap_i64, maxLen, Nat.reduceAdd] at *; omega), by first | omega | (simp only [szR, wRow_sl, decide_eq_true_eq, decide_eq_false_iff_not, IntKind.wrap_i64, maxLen, Nat.reduceAdd] at *; omega), rfl⟩
    | exact ⟨sub a 0 1, _, wa.sub 0 1 (by decide), by first | omega | (simp only [szR, wRow_sl, decide_eq_true_eq, decide_eq_false_iff_not, IntKind.wrap_i64, maxLen, Nat.reduceAdd] at *; omega), by first | omega | (simp only [szR, wRow_sl, decide_eq_true_eq, decide_eq_false_iff_not, IntKind.wrap_i64, maxLen, Nat.reduceAdd] at *; omega), rfl⟩ | exact ⟨sub a 1 1, _, wa.sub 1 1 (by decide), by first | omega | (simp only [szR, wRow_sl, decide_eq_true_eq, decide_eq_false_iff_not, IntKind.wrap_i64, maxLen, Nat.reduceAdd] at *; omega), by first | omega | (simp only [szR, wRow_sl, decide_eq_true_eq, decide_eq_false_iff_not, IntKind.wrap_i64, maxLen, Nat.reduceAdd] at *; omega), rfl⟩ | exact ⟨sub a 2 1, _, wa.sub 2 1 (by decide), by first | omega | (simp only [szR, wRow_sl, decide_eq_true_eq, decide_eq_false_iff_not, IntKind.wrap_i64, maxLen, Nat.reduceAdd] at *; omega), by first | omega | (simp only [szR, wRow_sl, decide_eq_true_eq, decide_eq_false_iff_not, IntKind.wrap_i64, maxLen, Nat.reduceAdd] at *; omega), rfl⟩ | exact ⟨sub a 3 1, _, wa.sub 3 1 (by decide), by first | omega | (simp only [szR, wRow_sl, decide_eq_true_eq, decide_eq_false_iff_not, IntKind.wrap_i64, maxLen, Nat.reduceAdd] at *; omega), by first | omega | (simp only [szR, wRow_sl, decide_eq_true_eq, decide_eq_false_iff_not, IntKind.wrap_i64, maxLen, Nat.reduceAdd] at *; omega), rfl⟩ | exact ⟨sub a 4 7, _, wa.sub 4 7 (by decide), by first | omega | (simp only [szR, wRow_sl, decide_eq_true_eq, decide_eq_false_iff_not, IntKind.wrap_i64, maxLen, Nat.reduceAdd] at *; omega), by first | omega | (simp only [szR, wRow_sl, decide_eq_true_eq, decide_eq_false_iff_not, IntKind.wrap_i64, maxLen, Nat.reduceAdd] at *; omega), rfl⟩ | exact ⟨sub a 11 1, _, wa.sub 11 1 (by decide), by first | omega | (simp only [szR, wRow_sl, decide_eq_true_eq, decide_eq_false_iff_not, IntKind.wrap_i64, maxLen, Nat.reduceAdd] at *; omega), by first | omega | (simp only [szR, wRow_sl, decide_eq_true_eq, decide_eq_false_iff_not, IntKind.wrap_i64, maxLen, Nat.reduceAdd] at *; omega), rfl⟩
    | (refine resI ?_; simp only [csD, CV.d, rowC, ofD, argG, List.zipIdx, List.map, wRow, wD, sub, List.range, List.range.loop, Nat.reduceAdd]; simp only [csD, CV.d, rowC, ofD, argG, List.zipIdx, List.map, wRow, wD, sub, List.range, List.range.loop, Nat.reduceAdd, szR, wRow_sl, decide_eq_true_eq, decide_eq_false_iff_not, IntKind.wrap_i64, maxLen] at *; omega)
/-- laws.szEntryS -/
theorem ok48 : FOk Tryz.prog T 48 (szS 146) := by
  refine fok (env := envL [(92, (szG [.i .i64, .i .i64, .i .i64, .l 3, .i .i64, .i .i64, .i .i64, .s, .l 144, .l 9, .l 234, .b]))]) (N := 27) tabT (envL_cons ok92 envL_nil) mixed Tryz.func48 rfl Tryz.call48 Tryz.ntmps48 ?_
  rintro args ⟨a, l, hl0, hl1, rfl⟩ hwf
  have wa : WfD T (.l 146) (.l a) := arg0 hwf (List.mem_singleton_self _)
  clear hwf
  have la := wa.len
  refine ⟨by simp, ?_⟩
  rw [Tryz.results48]
  repeat' first
    | (refine And.intro ?_ ?_)
    | (intro h; cases h)
    | (intro h; rw [h])
    | (intro h)
  all_goals first
    | (show lowEdges _ = true; kernel_rfl) | (show logOk _ _ = true; kernel_rfl) | trivial | exact Or.inr rfl | exact Or.inl rfl
    | (refine resI ?_; have h := sub_no ‹_› hl0 hl1 la; have := szR_lt (l := l) (w := wRow (csD [.sl false 146 a])) (by rw [wRow_sl]; omega); exact this.symm)
    | skip
  obtain ⟨hb, he⟩ := sub_yes ‹_› hl0 hl1 la
  refine awp_loop (Q := _) [0, 1, 5] [] (fun n s => ∃ i : Int, s = ([argS 146 a, .val false [.i .i64 (l - a.length - wRows (a.take i.toNat))], .val false [.i .i64 i]], []) ∧ 0 ≤ i ∧ i ≤ a.length ∧ n = a.length - i.toNat ∧ 0 ≤ l - a.length - wRows (a.take i.toNat)) ?_ ?_
  · exact ⟨rfl, a.length - 0, 0, congrArg (fun z : Int => (([argS 146 a, .val false [.i .i64 z], .val false [.i .i64 0]], []) : Snap)) (by rw [he]; simp [wRows]), by omega, by omega, rfl, by simp [wRows]; omega⟩
  rintro n s ⟨i, rfl, h1, h2, h3, h4⟩
  repeat' first
    | (refine And.intro ?_ ?_)
    | (intro h; cases h)
    | (intro h; rw [h])
    | (intro h)
  all_goals first
    | (show lowEdges _ = true; kernel_rfl) | (show logOk _ _ = true; kernel_rfl) | trivial | exact Or.inr rfl | exact Or.inl rfl
    | omega
    | exact of_decide_eq_true ‹_›
    | (have hA := wRows_all h1 h2 ‹_›
       refine resI ?_
       have := szR_ge (l := l) (w := wRow (csD [.sl false 146 a])) (by rw [wRow_sl]; omega)
       rw [this, wRow_sl, hA]; omega)
    | skip
  all_goals
    have hi : i < (a.length : Int) := of_decide_eq_true ‹decide (i < (a.length : Int)) = true›
    have wr : WfRow T [.i .i64, .i .i64, .i .i64, .l 3, .i .i64, .i .i64, .i .i64, .s, .l 144, .l 9, .l 234, .b] (a.getD i.toNat []) := wa.row rfl (by omega)
    have hnx := wRows_next h1 hi
    have hle := wRows_le a (i + 1).toNat
    have hrow : wRow (a.getD i.toNat []) = wRow (csD (rowC [.i .i64, .i .i64, .i .i64, .l 3, .i .i64, .i .i64, .i .i64, .s, .l 144, .l 9, .l 234, .b] (a.getD i.toNat []))) := (wRow_rowC wr).symm
    first
      | exact ⟨_, _, wr, by omega, by omega, rfl⟩
      | exact ⟨_, _, wr, Nat.lt_of_lt_of_le (size_row (by omega)) (Nat.le_of_lt_succ hs), by omega, by omega, rfl⟩
      | (refine resI ?_
         have hw := szR_no (‹decide (szR (l - a.length - wRows (a.take i.toNat)) (wRow (csD (rowC [.i .i64, .i .i64, .i .i64, .l 3, .i .i64, .i .i64, .i .i64, .s, .l 144, .l 9, .l 234, .b] (a.getD i.toNat [])))) < 0) = true›) h4
         have := szR_lt (l := l) (w := wRow (csD [.sl false 146 a])) (by rw [wRow_sl]; omega)
         exact this.symm)
      | (obtain ⟨hw, hv⟩ := szR_yes (‹decide (szR (l - a.length - wRows (a.take i.toNat)) (wRow (csD (rowC [.i .i64, .i .i64, .i .i64, .l 3, .i .i64, .i .i64, .i .i64, .s, .l 144, .l 9, .l 234, .b] (a.getD i.toNat [])))) < 0) = false›)
         refine ⟨a.length - (i + 1).toNat, by omega, i + 1, ?_, by omega, by omega, rfl, by omega⟩
         have e2 : szR (l - a.length - wRows (a.take i.toNat)) (wRow (csD (rowC [.i .i64, .i .i64, .i .i64, .l 3, .i .i64, .i .i64, .i .i64, .s, .l 144, .l 9, .l 234, .b] (a.getD i.toNat [])))) = l - a.length - wRows (a.take (i + 1).toNat) := hv.trans (by omega)
         have e3 := wrap_next h1 hi la
         exact (congrArg (fun z : Int => (([argS 146 a, .val false [.i .i64 (szR (l - a.length - wRows (a.take i.toNat)) (wRow (csD (rowC [.i .i64, .i .i64, .i .i64, .l 3, .i .i64, .i .i64, .i .i64, .s, .l 144, .l 9, .l 234, .b] (a.getD i.toNat [])))))], .val false [.i .i64 z]], []) : Snap)) e3).trans (congrArg (fun z : Int => (([argS 146 a, .val false [.i .i64 z], .val false [.i .i64 (i + 1)]], []) : Snap)) e2))
/-- laws.szEngine -/
theorem ok19 : FOk Tryz.prog T 19 (szG [.l 176, .i .i64, .i .i64, .l 178, .l 139, .l 146, .i .i64, .i .i64, .i .i64]) := by
  refine fok (env := envL [(45, (szG [.l 176])), (46, (szG [.i .i64, .i .i64, .l 178])), (47, (szS 139)), (48, (szS 146))]) (N := 30) tabT (envL_cons ok45 (envL_cons ok46 (envL_cons ok47 (envL_cons ok48 envL_nil)))) mixed Tryz.func19 rfl Tryz.call19 Tryz.ntmps19 ?_
  rintro args ⟨a, l, wa, hl0, hl1, rfl⟩ hwf
  refine ⟨by simp, ?_⟩
  clear hwf
  rw [Tryz.results19]
  repeat' first
    | (refine And.intro ?_ ?_)
    | (intro h; cases h)
    | (intro h; rw [h])
    | (intro h)
  all_goals first
    | (show lowEdges _ = true; kernel_rfl) | (show logOk _ _ = true; kernel_rfl) | trivial | exact Or.inr rfl | exact Or.inl rfl
    | exact ⟨_, _, by first | omega | (simp only [szR, wRow_sl, decide_eq_true_eq, decide_eq_false_iff_not, IntKind.wrap_i64, maxLen, Nat.reduceAdd] at *; omega), by first | omega | (simp only [szR, wRow_sl, decide_eq_true_eq, decide_eq_false_iff_not, IntKind.wrap_i64, maxLen, Nat.reduceAdd] at *; omega), rfl⟩
    | exact ⟨_, _, Nat.lt_of_lt_of_le (size_cell (by rw [wa.1]; decide)) (Nat.le_of_lt_succ hs), by first | omega | (simp only [szR, wRow_sl, decide_eq_true_eq, decide_eq_false_iff_not, IntKind.wrap_i64, maxLen, Nat.reduceAdd] at *; omega), by first | omega | (simp only [szR, wRow_sl, decide_eq_true_eq, decide_eq_false_iff_not, IntKind.wrap_i64, maxLen, Nat.reduceAdd] at *; omega), rfl⟩
    | exact ⟨sub a 0 1, _, wa.sub 0 1 (by decide), by first | omega | (simp only [szR, wRow_sl, decide_eq_true_eq, decide_eq_false_iff_not, IntKind.wrap_i64, maxLen, Nat.reduceAdd] at *; omega), by first | omega | (simp only [szR, wRow_sl, decide_eq_true_eq, decide_eq_false_iff_not, IntKind.wrap_i64, maxLen, Nat.reduceAdd] at *; omega), rfl⟩ | exact ⟨sub a 1 3, _, wa.sub 1 3 (by decide), by first | omega | (simp only [szR, wRow_sl, decide_eq_true_eq, decide_eq_false_iff_not, IntKind.wrap_i64, maxLen, Nat.reduceAdd] at *; omega), by first | omega | (simp only [szR, wRow_sl, decide_eq_true_eq, decide_eq_false_iff_not, IntKind.wrap_i64, maxLen, Nat.reduceAdd] at *; omega), rfl⟩ | exact ⟨sub a 4 1, _, wa.sub 4 1 (by decide), by first | omega | (simp only [szR, wRow_sl, decide_eq_true_eq, decide_eq_false_iff_not, IntKind.wrap_i64, maxLen, Nat.reduceAdd] at *; omega), by first | omega | (simp only [szR, wRow_sl, decide_eq_true_eq, decide_eq_false_iff_not, IntKind.wrap_i64, maxLen, Nat.reduceAdd] at *; omega), rfl⟩ | exact ⟨sub a 5 1, _, wa.sub 5 1 (by decide), by first | omega | (simp only [szR, wRow_sl, decide_eq_true_eq, decide_eq_false_iff_not, IntKind.wrap_i64, maxLen, Nat.reduceAdd] at *; omega), by first | omega | (simp only [szR, wRow_sl, decide_eq_true_eq, decide_eq_false_iff_not, IntKind.wrap_i64, maxLen, Nat.reduceAdd] at *; omega), rfl⟩ | exact ⟨sub a 6 1, _, wa.sub 6 1 (by decide), by first | omega | (simp only [szR, wRow_sl, decide_eq_true_eq, decide_eq_false_iff_not, IntKind.wrap_i64, maxLen, Nat.reduceAdd] at *; omega), by first | omega | (simp only [szR, wRow_sl, decide_eq_true_eq, decide_eq_false_iff_not, IntKind.wrap_i64, maxLen, Nat.reduceAdd] at *; omega), rfl⟩ | exact ⟨sub a 7 1, _, wa.sub 7 1 (by decide), by first | omega | (simp only [szR, wRow_sl, decide_eq_true_eq, decide_eq_false_iff_not, IntKind.wrap_i64, maxLen, Nat.reduceAdd] at *; omega), by first | omega | (simp only [szR, wRow_sl, decide_eq_true_eq, decide_eq_false_iff_not, IntKind.wrap_i64, maxLen, Nat.reduceAdd] at *; omega), rfl⟩ | exact ⟨sub a 8 1, _, wa.sub 8 1 (by decide), by first | omega | (simp only [szR, wRow_sl, decide_eq_true_eq, decide_eq_false_iff_not, IntKind.wrap_i64, maxLen, Nat.reduceAdd] at *; omega), by first | omega | (simp only [szR, wRow_sl, decide_eq_true_eq, decide_eq_false_iff_not, IntKind.wrap_i64, maxLen, Nat.reduceAdd] at *; omega), rfl⟩
    | (refine resI ?_; simp only [csD, CV.d, rowC, ofD, argG, List.zipIdx, List.map, wRow, wD, sub, List.range, List.range.loop, Nat.reduceAdd]; simp only [csD, CV.d, rowC, ofD, argG, List.zipIdx, List.map, wRow, wD, sub, List.range, List.range.loop, Nat.reduceAdd, szR, wRow_sl, decide_eq_true_eq, decide_eq_false_iff_not, IntKind.wrap_i64, maxLen] at *; omega)
/-- laws.szEdit -/
theorem ok166 : FOk Tryz.prog T 166 (szG [.i .i64, .i .i64, .i .i64, .i .i64, .i .i64, .s, .s, .i .i64]) := by
  refine fok (env := envL [(124, (szG [.i .i64, .i .i64, .i .i64, .s, .s, .i .i64]))]) (N := 12) tabT (envL_cons ok124 envL_nil) mixed Tryz.func166 rfl Tryz.call166 Tryz.ntmps166 ?_
  rintro args ⟨a, l, wa, hl0, hl1, rfl⟩ hwf
  refine ⟨by simp, ?_⟩
  clear hwf
  have hs5 := wa.str (j := 5) rfl
  have hs6 := wa.str (j := 6) rfl
  rw [Tryz.results166]
  repeat' first
    | (refine And.intro ?_ ?_)
    | (intro h; cases h)
    | (intro h; rw [h])
    | (intro h)
  all_goals first
    | (show lowEdges _ = true; kernel_rfl) | (show logOk _ _ = true; kernel_rfl) | trivial | exact Or.inr rfl | exact Or.inl rfl
    | exact ⟨_, _, by first | omega | (simp only [szR, wRow_sl, decide_eq_true_eq, decide_eq_false_iff_not, IntKind.wrap_i64, maxLen, Nat.reduceAdd] at *; omega), by first | omega | (simp only [szR, wRow_sl, decide_eq_true_eq, decide_eq_false_iff_not, IntKind.wrap_i64, maxLen, Nat.reduceAdd] at *; omega), rfl⟩
    | exact ⟨_, _, Nat.lt_of_lt_of_le (size_cell (by rw [wa.1]; decide)) (Nat.le_of_lt_succ hs), by first | omega | (simp only [szR, wRow_sl, decide_eq_true_eq, decide_eq_false_iff_not, IntKind.wrap_i64, maxLen, Nat.reduceAdd] at *; omega), by first | omega | (simp only [szR, wRow_sl, decide_eq_true_eq, decide_eq_false_iff_not, IntKind.wrap_i64, maxLen, Nat.reduceAdd] at *; omega), rfl⟩
    | exact ⟨sub a 0 1, _, wa.sub 0 1 (by decide), by first | omega | (simp only [szR, wRow_sl, decide_eq_true_eq, decide_eq_false_iff_not, IntKind.wrap_i64, maxLen, Nat.reduceAdd] at *; omega), by first | omega | (simp only [szR, wRow_sl, decide_eq_true_eq, decide_eq_false_iff_not, IntKind.wrap_i64, maxLen, Nat.reduceAdd] at *; omega), rfl⟩ | exact ⟨sub a 1 1, _, wa.sub 1 1 (by decide), by first | omega | (simp only [szR, wRow_sl, decide_eq_true_eq, decide_eq_false_iff_not, IntKind.wrap_i64, maxLen, Nat.reduceAdd] at *; omega), by first | omega | (simp only [szR, wRow_sl, decide_eq_true_eq, decide_eq_false_iff_not, IntKind.wrap_i64, maxLen, Nat.reduceAdd] at *; omega), rfl⟩ | exact ⟨sub a 2 6, _, wa.sub 2 6 (by decide), by first | omega | (simp only [szR, wRow_sl, decide_eq_true_eq, decide_eq_false_iff_not, IntKind.wrap_i64, maxLen, Nat.reduceAdd] at *; omega), by first | omega | (simp only [szR, wRow_sl, decide_eq_true_eq, decide_eq_false_iff_not, IntKind.wrap_i64, maxLen, Nat.reduceAdd] at *; omega), rfl⟩
    | (refine resI ?_; simp only [csD, CV.d, rowC, ofD, argG, List.zipIdx, List.map, wRow, wD, sub, List.range, List.range.loop, Nat.reduceAdd]; simp only [csD, CV.d, rowC, ofD, argG, List.zipIdx, List.map, wRow, wD, sub, List.range, List.range.loop, Nat.reduceAdd, szR, wRow_sl, decide_eq_true_eq, decide_eq_false_iff_not, IntKind.wrap_i64, maxLen] at *; omega)
/-- laws.szEditS -/
theorem ok129 : FOk Tryz.prog T 129 (szS 216) := by
  refine fok (env := envL [(166, (szG [.i .i64, .i .i64, .i .i64, .i .i64, .i .i64, .s, .s, .i .i64]))]) (N := 27) tabT (envL_cons ok166 envL_nil) mixed Tryz.func129 rfl Tryz.call129 Tryz.ntmps129 ?_
  rintro args ⟨a, l, hl0, hl1, rfl⟩ hwf
  have wa : WfD T (.l 216) (.l a) := arg0 hwf (List.mem_singleton_self _)
  clear hwf
  have la := wa.len
  refine ⟨by simp, ?_⟩
  rw [Tryz.results129]
  repeat' first
    | (refine And.intro ?_ ?_)
    | (intro h; cases h)
    | (intro h; rw [h])
    | (intro h)
  all_goals first
    | (show lowEdges _ = true; kernel_rfl) | (show logOk _ _ = true; kernel_rfl) | trivial | exact Or.inr rfl | exact Or.inl rfl
    | (refine resI ?_; have h := sub_no ‹_› hl0 hl1 la; have := szR_lt (l := l) (w := wRow (csD [.sl false 216 a])) (by rw [wRow_sl]; omega); exact this.symm)
    | skip
  obtain ⟨hb, he⟩ := sub_yes ‹_› hl0 hl1 la
  refine awp_loop (Q := _) [0, 1, 5] [] (fun n s => ∃ i : Int, s = ([argS 216 a, .val false [.i .i64 (l - a.length - wRows (a.take i.toNat))], .val false [.i .i64 i]], []) ∧ 0 ≤ i ∧ i ≤ a.length ∧ n = a.length - i.toNat ∧ 0 ≤ l - a.length - wRows (a.take i.toNat)) ?_ ?_
  · exact ⟨rfl, a.length - 0, 0, congrArg (fun z : Int => (([argS 216 a, .val false [.i .i64 z], .val false [.i .i64 0]], []) : Snap)) (by rw [he]; simp [wRows]), by omega, by omega, rfl, by simp [wRows]; omega⟩
  rintro n s ⟨i, rfl, h1, h2, h3, h4⟩
  repeat' first
    | (refine And.intro ?_ ?_)
    | (intro h; cases h)
    | (intro h; rw [h])
    | (intro h)
  all_goals first
    | (show lowEdges _ = true; kernel_rfl) | (show logOk _ _ = true; kernel_rfl) | trivial | exact Or.inr rfl | exact Or.inl rfl
    | omega
    | exact of_decide_eq_true ‹_›
    | (have hA := wRows_all h1 h2 ‹_›
       refine resI ?_
       have := szR_ge (l := l) (w := wRow (csD [.sl false 216 a])) (by rw [wRow_sl]; omega)
       rw [this, wRow_sl, hA]; omega)
    | skip
  all_goals
    have hi : i < (a.length : Int) := of_decide_eq_true ‹decide (i < (a.length : Int)) = true›
    have wr : WfRow T [.i .i64, .i .i64, .i .i64, .i .i64, .i .i64, .s, .s, .i .i64] (a.getD i.toNat []) := wa.row rfl (by omega)
    have hnx := wRows_next h1 hi
    have hle := wRows_le a (i + 1).toNat
    have hrow : wRow (a.getD i.toNat []) = wRow (csD (rowC [.i .i64, .i .i64, .i .i64, .i .i64, .i .i64, .s, .s, .i .i64] (a.getD i.toNat []))) := (wRow_rowC wr).symm
    first
      | exact ⟨_, _, wr, by omega, by omega, rfl⟩
      | exact ⟨_, _, wr, Nat.lt_of_lt_of_le (size_row (by omega)) (Nat.le_of_lt_succ hs), by omega, by omega, rfl⟩
      | (refine resI ?_
         have hw := szR_no (‹decide (szR (l - a.length - wRows (a.take i.toNat)) (wRow (csD (rowC [.i .i64, .i .i64, .i .i64, .i .i64, .i .i64, .s, .s, .i .i64] (a.getD i.toNat [])))) < 0) = true›) h4
         have := szR_lt (l := l) (w := wRow (csD [.sl false 216 a])) (by rw [wRow_sl]; omega)
         exact this.symm)
      | (obtain ⟨hw, hv⟩ := szR_yes (‹decide (szR (l - a.length - wRows (a.take i.toNat)) (wRow (csD (rowC [.i .i64, .i .i64, .i .i64, .i .i64, .i .i64, .s, .s, .i .i64] (a.getD i.toNat [])))) < 0) = false›)
         refine ⟨a.length - (i + 1).toNat, by omega, i + 1, ?_, by omega, by omega, rfl, by omega⟩
         have e2 : szR (l - a.length - wRows (a.take i.toNat)) (wRow (csD (rowC [.i .i64, .i .i64, .i .i64, .i .i64, .i .i64, .s, .s, .i .i64] (a.getD i.toNat [])))) = l - a.length - wRows (a.take (i + 1).toNat) := hv.trans (by omega)
         have e3 := wrap_next h1 hi la
         exact (congrArg (fun z : Int => (([argS 216 a, .val false [.i .i64 (szR (l - a.length - wRows (a.take i.toNat)) (wRow (csD (rowC [.i .i64, .i .i64, .i .i64, .i .i64, .i .i64, .s, .s, .i .i64] (a.getD i.toNat [])))))], .val false [.i .i64 z]], []) : Snap)) e3).trans (congrArg (fun z : Int => (([argS 216 a, .val false [.i .i64 z], .val false [.i .i64 (i + 1)]], []) : Snap)) e2))
/-- laws.szNode -/
theorem ok93 : FOk Tryz.prog T 93 (szG [.i .i64, .l 216, .l 216]) := by
  refine fok (env := envL [(129, (szS 216))]) (N := 18) tabT (envL_cons ok129 envL_nil) mixed Tryz.func93 rfl Tryz.call93 Tryz.ntmps93 ?_
  rintro args ⟨a, l, wa, hl0, hl1, rfl⟩ hwf
  refine ⟨by simp, ?_⟩
  clear hwf
  rw [Tryz.results93]
  repeat' first
    | (refine And.intro ?_ ?_)
    | (intro h; cases h)
    | (intro h; rw [h])
    | (intro h)
  all_goals first
    | (show lowEdges _ = true; kernel_rfl) | (show logOk _ _ = true; kernel_rfl) | trivial | exact Or.inr rfl | exact Or.inl rfl
    | exact ⟨_, _, by first | omega | (simp only [szR, wRow_sl, decide_eq_true_eq, decide_eq_false_iff_not, IntKind.wrap_i64, maxLen, Nat.reduceAdd] at *; omega), by first | omega | (simp only [szR, wRow_sl, decide_eq_true_eq, decide_eq_false_iff_not, IntKind.wrap_i64, maxLen, Nat.reduceAdd] at *; omega), rfl⟩
    | exact ⟨_, _, Nat.lt_of_lt_of_le (size_cell (by rw [wa.1]; decide)) (Nat.le_of_lt_succ hs), by first | omega | (simp only [szR, wRow_sl, decide_eq_true_eq, decide_eq_false_iff_not, IntKind.wrap_i64, maxLen, Nat.reduceAdd] at *; omega), by first | omega | (simp only [szR, wRow_sl, decide_eq_true_eq, decide_eq_false_iff_not, IntKind.wrap_i64, maxLen, Nat.reduceAdd] at *; omega), rfl⟩
    | exact ⟨sub a 0 1, _, wa.sub 0 1 (by decide), by first | omega | (simp only [szR, wRow_sl, decide_eq_true_eq, decide_eq_false_iff_not, IntKind.wrap_i64, maxLen, Nat.reduceAdd] at *; omega), by first | omega | (simp only [szR, wRow_sl, decide_eq_true_eq, decide_eq_false_iff_not, IntKind.wrap_i64, maxLen, Nat.reduceAdd] at *; omega), rfl⟩ | exact ⟨sub a 1 1, _, wa.sub 1 1 (by decide), by first | omega | (simp only [szR, wRow_sl, decide_eq_true_eq, decide_eq_false_iff_not, IntKind.wrap_i64, maxLen, Nat.reduceAdd] at *; omega), by first | omega | (simp only [szR, wRow_sl, decide_eq_true_eq, decide_eq_false_iff_not, IntKind.wrap_i64, maxLen, Nat.reduceAdd] at *; omega), rfl⟩ | exact ⟨sub a 2 1, _, wa.sub 2 1 (by decide), by first | omega | (simp only [szR, wRow_sl, decide_eq_true_eq, decide_eq_false_iff_not, IntKind.wrap_i64, maxLen, Nat.reduceAdd] at *; omega), by first | omega | (simp only [szR, wRow_sl, decide_eq_true_eq, decide_eq_false_iff_not, IntKind.wrap_i64, maxLen, Nat.reduceAdd] at *; omega), rfl⟩
    | (refine resI ?_; simp only [csD, CV.d, rowC, ofD, argG, List.zipIdx, List.map, wRow, wD, sub, List.range, List.range.loop, Nat.reduceAdd]; simp only [csD, CV.d, rowC, ofD, argG, List.zipIdx, List.map, wRow, wD, sub, List.range, List.range.loop, Nat.reduceAdd, szR, wRow_sl, decide_eq_true_eq, decide_eq_false_iff_not, IntKind.wrap_i64, maxLen] at *; omega)
/-- laws.szNodeS -/
theorem ok49 : FOk Tryz.prog T 49 (szS 150) := by
  refine fok (env := envL [(93, (szG [.i .i64, .l 216, .l 216]))]) (N := 27) tabT (envL_cons ok93 envL_nil) mixed Tryz.func49 rfl Tryz.call49 Tryz.ntmps49 ?_
  rintro args ⟨a, l, hl0, hl1, rfl⟩ hwf
  have wa : WfD T (.l 150) (.l a) := arg0 hwf (List.mem_singleton_self _)
  clear hwf
  have la := wa.len
  refine ⟨by simp, ?_⟩
  rw [Tryz.results49]
  repeat' first
    | (refine And.intro ?_ ?_)
    | (intro h; cases h)
    | (intro h; rw [h])
    | (intro h)
  all_goals first
    | (show lowEdges _ = true; kernel_rfl) | (show logOk _ _ = true; kernel_rfl) | trivial | exact Or.inr rfl | exact Or.inl rfl
    | (refine resI ?_; have h := sub_no ‹_› hl0 hl1 la; have := szR_lt (l := l) (w := wRow (csD [.sl false 150 a])) (by rw [wRow_sl]; omega); exact this.symm)
    | skip
  obtain ⟨hb, he⟩ := sub_yes ‹_› hl0 hl1 la
  refine awp_loop (Q := _) [0, 1, 5] [] (fun n s => ∃ i : Int, s = ([argS 150 a, .val false [.i .i64 (l - a.length - wRows (a.take i.toNat))], .val false [.i .i64 i]], []) ∧ 0 ≤ i ∧ i ≤ a.length ∧ n = a.length - i.toNat ∧ 0 ≤ l - a.length - wRows (a.take i.toNat)) ?_ ?_
  · exact ⟨rfl, a.length - 0, 0, congrArg (fun z : Int => (([argS 150 a, .val false [.i .i64 z], .val false [.i .i64 0]], []) : Snap)) (by rw [he]; simp [wRows]), by omega, by omega, rfl, by simp [wRows]; omega⟩
  rintro n s ⟨i, rfl, h1, h2, h3, h4⟩
  repeat' first
    | (refine And.intro ?_ ?_)
    | (intro h; cases h)
    | (intro h; rw [h])
    | (intro h)
  all_goals first
    | (show lowEdges _ = true; kernel_rfl) | (show logOk _ _ = true; kernel_rfl) | trivial | exact Or.inr rfl | exact Or.inl rfl
    | omega
    | exact of_decide_eq_true ‹_›
    | (have hA := wRows_all h1 h2 ‹_›
       refine resI ?_
       have := szR_ge (l := l) (w := wRow (csD [.sl false 150 a])) (by rw [wRow_sl]; omega)
       rw [this, wRow_sl, hA]; omega)
    | skip
  all_goals
    have hi : i < (a.length : Int) := of_decide_eq_true ‹decide (i < (a.length : Int)) = true›
    have wr : WfRow T [.i .i64, .l 216, .l 216] (a.getD i.toNat []) := wa.row rfl (by omega)
    have hnx := wRows_next h1 hi
    have hle := wRows_le a (i + 1).toNat
    have hrow : wRow (a.getD i.toNat []) = wRow (csD (rowC [.i .i64, .l 216, .l 216] (a.getD i.toNat []))) := (wRow_rowC wr).symm
    first
      | exact ⟨_, _, wr, by omega, by omega, rfl⟩
      | exact ⟨_, _, wr, Nat.lt_of_lt_of_le (size_row (by omega)) (Nat.le_of_lt_succ hs), by omega, by omega, rfl⟩
      | (refine resI ?_
         have hw := szR_no (‹decide (szR (l - a.length - wRows (a.take i.toNat)) (wRow (csD (rowC [.i .i64, .l 216, .l 216] (a.getD i.toNat [])))) < 0) = true›) h4
         have := szR_lt (l := l) (w := wRow (csD [.sl false 150 a])) (by rw [wRow_sl]; omega)
         exact this.symm)
      | (obtain ⟨hw, hv⟩ := szR_yes (‹decide (szR (l - a.length - wRows (a.take i.toNat)) (wRow (csD (rowC [.i .i64, .l 216, .l 216] (a.getD i.toNat [])))) < 0) = false›)
         refine ⟨a.length - (i + 1).toNat, by omega, i + 1, ?_, by omega, by omega, rfl, by omega⟩
         have e2 : szR (l - a.length - wRows (a.take i.toNat)) (wRow (csD (rowC [.i .i64, .l 216, .l 216] (a.getD i.toNat [])))) = l - a.length - wRows (a.take (i + 1).toNat) := hv.trans (by omega)
         have e3 := wrap_next h1 hi la
         exact (congrArg (fun z : Int => (([argS 150 a, .val false [.i .i64 (szR (l - a.length - wRows (a.take i.toNat)) (wRow (csD (rowC [.i .i64, .l 216, .l 216] (a.getD i.toNat [])))))], .val false [.i .i64 z]], []) : Snap)) e3).trans (congrArg (fun z : Int => (([argS 150 a, .val false [.i .i64 z], .val false [.i .i64 (i + 1)]], []) : Snap)) e2))
/-- laws.szHistory -/
theorem ok20 : FOk Tryz.prog T 20 (szG [.l 176, .l 150, .i .i64]) := by
  refine fok (env := envL [(45, (szG [.l 176])), (49, (szS 150))]) (N := 18) tabT (envL_cons ok45 (envL_cons ok49 envL_nil)) mixed Tryz.func20 rfl Tryz.call20 Tryz.ntmps20 ?_
  rintro args ⟨a, l, wa, hl0, hl1, rfl⟩ hwf
  refine ⟨by simp, ?_⟩
  clear hwf
  rw [Tryz.results20]
  repeat' first
    | (refine And.intro ?_ ?_)
    | (intro h; cases h)
    | (intro h; rw [h])
    | (intro h)
  all_goals first
    | (show lowEdges _ = true; kernel_rfl) | (show logOk _ _ = true; kernel_rfl) | trivial | exact Or.inr rfl | exact Or.inl rfl
    | exact ⟨_, _, by first | omega | (simp only [szR, wRow_sl, decide_eq_true_eq, decide_eq_false_iff_not, IntKind.wrap_i64, maxLen, Nat.reduceAdd] at *; omega), by first | omega | (simp only [szR, wRow_sl, decide_eq_true_eq, decide_eq_false_iff_not, IntKind.wrap_i64, maxLen, Nat.reduceAdd] at *; omega), rfl⟩
    | exact ⟨_, _, Nat.lt_of_lt_of_le (size_cell (by rw [wa.1]; decide)) (Nat.le_of_lt_succ hs), by first | omega | (simp only [szR, wRow_sl, decide_eq_true_eq, decide_eq_false_iff_not, IntKind.wrap_i64, maxLen, Nat.reduceAdd] at *; omega), by first | omega | (simp only [szR, wRow_sl, decide_eq_true_eq, decide_eq_false_iff_not, IntKind.wrap_i64, maxLen, Nat.reduceAdd] at *; omega), rfl⟩
    | exact ⟨sub a 0 1, _, wa.sub 0 1 (by decide), by first | omega | (simp only [szR, wRow_sl, decide_eq_true_eq, decide_eq_false_iff_not, IntKind.wrap_i64, maxLen, Nat.reduceAdd] at *; omega), by first | omega | (simp only [szR, wRow_sl, decide_eq_true_eq, decide_eq_false_iff_not, IntKind.wrap_i64, maxLen, Nat.reduceAdd] at *; omega), rfl⟩ | exact ⟨sub a 1 1, _, wa.sub 1 1 (by decide), by first | omega | (simp only [szR, wRow_sl, decide_eq_true_eq, decide_eq_false_iff_not, IntKind.wrap_i64, maxLen, Nat.reduceAdd] at *; omega), by first | omega | (simp only [szR, wRow_sl, decide_eq_true_eq, decide_eq_false_iff_not, IntKind.wrap_i64, maxLen, Nat.reduceAdd] at *; omega), rfl⟩ | exact ⟨sub a 2 1, _, wa.sub 2 1 (by decide), by first | omega | (simp only [szR, wRow_sl, decide_eq_true_eq, decide_eq_false_iff_not, IntKind.wrap_i64, maxLen, Nat.reduceAdd] at *; omega), by first | omega | (simp only [szR, wRow_sl, decide_eq_true_eq, decide_eq_false_iff_not, IntKind.wrap_i64, maxLen, Nat.reduceAdd] at *; omega), rfl⟩
    | (refine resI ?_; simp only [csD, CV.d, rowC, ofD, argG, List.zipIdx, List.map, wRow, wD, sub, List.range, List.range.loop, Nat.reduceAdd]; simp only [csD, CV.d, rowC, ofD, argG, List.zipIdx, List.map, wRow, wD, sub, List.range, List.range.loop, Nat.reduceAdd, szR, wRow_sl, decide_eq_true_eq, decide_eq_false_iff_not, IntKind.wrap_i64, maxLen] at *; omega)
/-- laws.szSession -/
theorem ok5 : FOk Tryz.prog T 5 (szG [.l 176, .i .i64, .i .i64, .l 178, .l 139, .l 146, .i .i64, .i .i64, .i .i64, .l 176, .l 150, .i .i64]) := by
  refine fok (env := envL [(19, (szG [.l 176, .i .i64, .i .i64, .l 178, .l 139, .l 146, .i .i64, .i .i64, .i .i64])), (20, (szG [.l 176, .l 150, .i .i64]))]) (N := 18) tabT (envL_cons ok19 (envL_cons ok20 envL_nil)) mixed Tryz.func5 rfl Tryz.call5 Tryz.ntmps5 ?_
  rintro args ⟨a, l, wa, hl0, hl1, rfl⟩ hwf
  refine ⟨by simp, ?_⟩
  clear hwf
  rw [Tryz.results5]
  repeat' first
    | (refine And.intro ?_ ?_)
    | (intro h; cases h)
    | (intro h; rw [h])
    | (intro h)
  all_goals first
    | (show lowEdges _ = true; kernel_rfl) | (show logOk _ _ = true; kernel_rfl) | trivial | exact Or.inr rfl | exact Or.inl rfl
    | exact ⟨_, _, by first | omega | (simp only [szR, wRow_sl, decide_eq_true_eq, decide_eq_false_iff_not, IntKind.wrap_i64, maxLen, Nat.reduceAdd] at *; omega), by first | omega | (simp only [szR, wRow_sl, decide_eq_true_eq, decide_eq_false_iff_not, IntKind.wrap_i64, maxLen, Nat.reduceAdd] at *; omega), rfl⟩
    | exact ⟨_, _, Nat.lt_of_lt_of_le (size_cell (by rw [wa.1]; decide)) (Nat.le_of_lt_succ hs), by first | omega | (simp only [szR, wRow_sl, decide_eq_true_eq, decide_eq_false_iff_not, IntKind.wrap_i64, maxLen, Nat.reduceAdd] at *; omega), by first | omega | (simp only [szR, wRow_sl, decide_eq_true_eq, decide_eq_false_iff_not, IntKind.wrap_i64, maxLen, Nat.reduceAdd] at *; omega), rfl⟩
    | exact ⟨sub a 0 9, _, wa.sub 0 9 (by decide), by first | omega | (simp only [szR, wRow_sl, decide_eq_true_eq, decide_eq_false_iff_not, IntKind.wrap_i64, maxLen, Nat.reduceAdd] at *; omega), by first | omega | (simp only [szR, wRow_sl, decide_eq_true_eq, decide_eq_false_iff_not, IntKind.wrap_i64, maxLen, Nat.reduceAdd] at *; omega), rfl⟩ | exact ⟨sub a 9 3, _, wa.sub 9 3 (by decide), by first | omega | (simp only [szR, wRow_sl, decide_eq_true_eq, decide_eq_false_iff_not, IntKind.wrap_i64, maxLen, Nat.reduceAdd] at *; omega), by first | omega | (simp only [szR, wRow_sl, decide_eq_true_eq, decide_eq_false_iff_not, IntKind.wrap_i64, maxLen, Nat.reduceAdd] at *; omega), rfl⟩
    | (refine resI ?_; simp only [csD, CV.d, rowC, ofD, argG, List.zipIdx, List.map, wRow, wD, sub, List.range, List.range.loop, Nat.reduceAdd]; simp only [csD, CV.d, rowC, ofD, argG, List.zipIdx, List.map, wRow, wD, sub, List.range, List.range.loop, Nat.reduceAdd, szR, wRow_sl, decide_eq_true_eq, decide_eq_false_iff_not, IntKind.wrap_i64, maxLen] at *; omega)
end Go.Proofs.YtijnlnmoellbaaaGreat.Ab
