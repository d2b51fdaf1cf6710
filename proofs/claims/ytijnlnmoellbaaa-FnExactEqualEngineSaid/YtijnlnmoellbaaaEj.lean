/- Measures: printed by a program of this claim. -/
import Derived.Test.YtijnlnmoellbaaaEs
namespace Go.Proofs.Ytijnlnmoellbaaa.Ab
open Go.RowKit
set_option linter.unusedVariables false
set_option linter.unusedSimpArgs false
set_option maxRecDepth 100000
set_option maxHeartbeats 1000000
/-- laws.szCell -/
theorem ok139 : FOk Try.prog T 139 (szG [.i .i64, .i .i64, .i .i64, .s, .s, .i .i64]) := by
  refine fok (env := envL []) (N := 20) tabT envL_nil mixed Try.func139 rfl Try.call139 Try.ntmps139 ?_
  rintro args ⟨a, l, wa, hl0, hl1, rfl⟩ hwf
  refine ⟨by simp, ?_⟩
  clear hwf
  have hs3 := wa.str (j := 3) rfl
  have hs4 := wa.str (j := 4) rfl
  rw [Try.results139]
  repeat' first
    | (refine And.intro ?_ ?_)
    | (intro h; cases h)
    | (intro h; rw [h])
    | (intro h)
  all_goals first
    | (show lowEdges _ = true; kernel_rfl) | (show logOk _ _ = true; kernel_rfl) | trivial | exact Or.inr rfl | exact Or.inl rfl
    | exact ⟨_, _, by first | omega | (simp only [szR, wRow_sl, decide_eq_true_eq, decide_eq_false_iff_not, IntKind.wrap_i64, maxLen, Nat.reduceAdd] at *; omega), by first | omega | (simp only [szR, wRow_sl, decide_eq_true_eq, decide_eq_false_iff_not, IntKind.wrap_i64, maxLen, Nat.reduceAdd] at *; omega), rfl⟩
    | exact ⟨_, _, Nat.lt_of_lt_of_le (size_cell (by rw [wa.1]; decide)) (Nat.le_of_lt_succ hs), by first | omega | (simp only [szR, wRow_sl, decide_eq_true_eq, decide_eq_false_iff_not, IntKind.wrap_i64, maxLen, Nat.reduceAdd] at *; omega), by first | omega | (simp only [szR, wRow_sl, decide_eq_true_eq, decide_eq_false_iff_not, IntKind.wrap_i64, maxLen, Nat.reduceAdd] at *; omega), rfl⟩
    | exact ⟨sub a 0 1, _, wa.sub 0 1 (by decide), by first | omega | (simp only [szR, wRow_sl, decide_eq_true_eq, decide_eq_false_iff_not, IntKind.wrap_i64, maxLen, Nat.reduceAdd] at *; omega), by first | omega | (simp only [szR, wRow_sl, decide_eq_true_eq, decide_eq_false_iff_not, IntKind.wrap_i64, maxLen, Nat.reduceAdd] at *; omega), rfl⟩ | exact ⟨sub a 1 1, _, wa.sub 1 1 (by decide), by first | omega | (simp only [szR, wRow_sl, decide_eq_true_eq, decide_eq_false_iff_not, IntKind.wrap_i64, maxLen, Nat.reduceAdd] at *; omega), by first | omega | (simp only [szR, wRow_sl, decide_eq_true_eq, decide_eq_false_iff_not, IntKind.wrap_i64, maxLen, Nat.reduceAdd] at *; omega), rfl⟩ | exact ⟨sub a 2 1, _, wa.sub 2 1 (by decide), by first | omega | (simp only [szR, wRow_sl, decide_eq_true_eq, decide_eq_false_iff_not, IntKind.wrap_i64, maxLen, Nat.reduceAdd] at *; omega), by first | omega | (simp only [szR, wRow_sl, decide_eq_true_eq, decide_eq_false_iff_not, IntKind.wrap_i64, maxLen, Nat.reduceAdd] at *; omega), rfl⟩ | exact ⟨sub a 3 1, _, wa.sub 3 1 (by decide), by first | omega | (simp only [szR, wRow_sl, decide_eq_true_eq, decide_eq_false_iff_not, IntKind.wrap_i64, maxLen, Nat.reduceAdd] at *; omega), by first | omega | (simp only [szR, wRow_sl, decide_eq_true_eq, decide_eq_false_iff_not, IntKind.wrap_i64, maxLen, Nat.reduceAdd] at *; omega), rfl⟩ | exact ⟨sub a 4 1, _, wa.sub 4 1 (by decide), by first | omega | (simp only [szR, wRow_sl, decide_eq_true_eq, decide_eq_false_iff_not, IntKind.wrap_i64, maxLen, Nat.reduceAdd] at *; omega), by first | omega | (simp only [szR, wRow_sl, decide_eq_true_eq, decide_eq_false_iff_not, IntKind.wrap_i64, maxLen, Nat.reduceAdd] at *; omega), rfl⟩ | exact ⟨sub a 5 1, _, wa.sub 5 1 (by decide), by first | omega | (simp only [szR, wRow_sl, decide_eq_true_eq, decide_eq_false_iff_not, IntKind.wrap_i64, maxLen, Nat.reduceAdd] at *; omega), by first | omega | (simp only [szR, wRow_sl, decide_eq_true_eq, decide_eq_false_iff_not, IntKind.wrap_i64, maxLen, Nat.reduceAdd] at *; omega), rfl⟩
    | (refine resI ?_; simp only [csD, CV.d, rowC, ofD, argG, List.zipIdx, List.map, wRow, wD, sub, List.range, List.range.loop, Nat.reduceAdd]; simp only [csD, CV.d, rowC, ofD, argG, List.zipIdx, List.map, wRow, wD, sub, List.range, List.range.loop, Nat.reduceAdd, szR, wRow_sl, decide_eq_true_eq, decide_eq_false_iff_not, IntKind.wrap_i64, maxLen] at *; omega)
/-- laws.szCellS -/
theorem ok93 : FOk Try.prog T 93 (szS 181) := by
  refine fok (env := envL [(139, (szG [.i .i64, .i .i64, .i .i64, .s, .s, .i .i64]))]) (N := 27) tabT (envL_cons ok139 envL_nil) mixed Try.func93 rfl Try.call93 Try.ntmps93 ?_
  rintro args ⟨a, l, hl0, hl1, rfl⟩ hwf
  have wa : WfD T (.l 181) (.l a) := arg0 hwf (List.mem_singleton_self _)
  clear hwf
  have la := wa.len
  refine ⟨by simp, ?_⟩
  rw [Try.results93]
  repeat' first
    | (refine And.intro ?_ ?_)
    | (intro h; cases h)
    | (intro h; rw [h])
    | (intro h)
  all_goals first
    | (show lowEdges _ = true; kernel_rfl) | (show logOk _ _ = true; kernel_rfl) | trivial | exact Or.inr rfl | exact Or.inl rfl
    | (refine resI ?_; have h := sub_no ‹_› hl0 hl1 la; have := szR_lt (l := l) (w := wRow (csD [.sl false 181 a])) (by rw [wRow_sl]; omega); exact this.symm)
    | skip
  obtain ⟨hb, he⟩ := sub_yes ‹_› hl0 hl1 la
  refine awp_loop (Q := _) [0, 1, 5] [] (fun n s => ∃ i : Int, s = ([argS 181 a, .val false [.i .i64 (l - a.length - wRows (a.take i.toNat))], .val false [.i .i64 i]], []) ∧ 0 ≤ i ∧ i ≤ a.length ∧ n = a.length - i.toNat ∧ 0 ≤ l - a.length - wRows (a.take i.toNat)) ?_ ?_
  · exact ⟨rfl, a.length - 0, 0, congrArg (fun z : Int => (([argS 181 a, .val false [.i .i64 z], .val false [.i .i64 0]], []) : Snap)) (by rw [he]; simp [wRows]), by omega, by omega, rfl, by simp [wRows]; omega⟩
  rintro n s ⟨i, rfl, h1, h2, h3, h4⟩
  repeat' first
    | (refine And.intro ?_ ?_)
    | (intro h; cases h)
    | (intro h; rw [h])
    | (intro h)
  all_goals first
    | (show lowEdges _ = true; kernel_rfl) | (show logOk _ _ = true; kernel_rfl) | trivial | exact Or.inr rfl | exact Or.inl rfl
    | omega
    | exact of_decide_eq_true ‹_›
    | (have hA := wRows_all h1 h2 ‹_›
       refine resI ?_
       have := szR_ge (l := l) (w := wRow (csD [.sl false 181 a])) (by rw [wRow_sl]; omega)
       rw [this, wRow_sl, hA]; omega)
    | skip
  all_goals
    have hi : i < (a.length : Int) := of_decide_eq_true ‹decide (i < (a.length : Int)) = true›
    have wr : WfRow T [.i .i64, .i .i64, .i .i64, .s, .s, .i .i64] (a.getD i.toNat []) := wa.row rfl (by omega)
    have hnx := wRows_next h1 hi
    have hle := wRows_le a (i + 1).toNat
    have hrow : wRow (a.getD i.toNat []) = wRow (csD (rowC [.i .i64, .i .i64, .i .i64, .s, .s, .i .i64] (a.getD i.toNat []))) := (wRow_rowC wr).symm
    first
      | exact ⟨_, _, wr, by omega, by omega, rfl⟩
      | exact ⟨_, _, wr, Nat.lt_of_lt_of_le (size_row (by omega)) (Nat.le_of_lt_succ hs), by omega, by omega, rfl⟩
      | (refine resI ?_
         have hw := szR_no (‹decide (szR (l - a.length - wRows (a.take i.toNat)) (wRow (csD (rowC [.i .i64, .i .i64, .i .i64, .s, .s, .i .i64] (a.getD i.toNat [])))) < 0) = true›) h4
         have := szR_lt (l := l) (w := wRow (csD [.sl false 181 a])) (by rw [wRow_sl]; omega)
         exact this.symm)
      | (obtain ⟨hw, hv⟩ := szR_yes (‹decide (szR (l - a.length - wRows (a.take i.toNat)) (wRow (csD (rowC [.i .i64, .i .i64, .i .i64, .s, .s, .i .i64] (a.getD i.toNat [])))) < 0) = false›)
         refine ⟨a.length - (i + 1).toNat, by omega, i + 1, ?_, by omega, by omega, rfl, by omega⟩
         have e2 : szR (l - a.length - wRows (a.take i.toNat)) (wRow (csD (rowC [.i .i64, .i .i64, .i .i64, .s, .s, .i .i64] (a.getD i.toNat [])))) = l - a.length - wRows (a.take (i + 1).toNat) := hv.trans (by omega)
         have e3 := wrap_next h1 hi la
         exact (congrArg (fun z : Int => (([argS 181 a, .val false [.i .i64 (szR (l - a.length - wRows (a.take i.toNat)) (wRow (csD (rowC [.i .i64, .i .i64, .i .i64, .s, .s, .i .i64] (a.getD i.toNat [])))))], .val false [.i .i64 z]], []) : Snap)) e3).trans (congrArg (fun z : Int => (([argS 181 a, .val false [.i .i64 z], .val false [.i .i64 (i + 1)]], []) : Snap)) e2))
/-- laws.szNotebook -/
theorem ok46 : FOk Try.prog T 46 (szG [.l 181]) := by
  refine fok (env := envL [(93, (szS 181))]) (N := 12) tabT (envL_cons ok93 envL_nil) mixed Try.func46 rfl Try.call46 Try.ntmps46 ?_
  rintro args ⟨a, l, wa, hl0, hl1, rfl⟩ hwf
  refine ⟨by simp, ?_⟩
  clear hwf
  rw [Try.results46]
  repeat' first
    | (refine And.intro ?_ ?_)
    | (intro h; cases h)
    | (intro h; rw [h])
    | (intro h)
  all_goals first
    | (show lowEdges _ = true; kernel_rfl) | (show logOk _ _ = true; kernel_rfl) | trivial | exact Or.inr rfl | exact Or.inl rfl
    | exact ⟨_, _, by first | omega | (simp only [szR, wRow_sl, decide_eq_true_eq, decide_eq_false_iff_not, IntKind.wrap_i64, maxLen, Nat.reduceAdd] at *; omega), by first | omega | (simp only [szR, wRow_sl, decide_eq_true_eq, decide_eq_false_iff_not, IntKind.wrap_i64, maxLen, Nat.reduceAdd] at *; omega), rfl⟩
    | exact ⟨_, _, Nat.lt_of_lt_of_le (size_cell (by rw [wa.1]; decide)) (Nat.le_of_lt_succ hs), by first | omega | (simp only [szR, wRow_sl, decide_eq_true_eq, decide_eq_false_iff_not, IntKind.wrap_i64, maxLen, Nat.reduceAdd] at *; omega), by first | omega | (simp only [szR, wRow_sl, decide_eq_true_eq, decide_eq_false_iff_not, IntKind.wrap_i64, maxLen, Nat.reduceAdd] at *; omega), rfl⟩
    | exact ⟨sub a 0 1, _, wa.sub 0 1 (by decide), by first | omega | (simp only [szR, wRow_sl, decide_eq_true_eq, decide_eq_false_iff_not, IntKind.wrap_i64, maxLen, Nat.reduceAdd] at *; omega), by first | omega | (simp only [szR, wRow_sl, decide_eq_true_eq, decide_eq_false_iff_not, IntKind.wrap_i64, maxLen, Nat.reduceAdd] at *; omega), rfl⟩
    | (refine resI ?_; simp only [csD, CV.d, rowC, ofD, argG, List.zipIdx, List.map, wRow, wD, sub, List.range, List.range.loop, Nat.reduceAdd]; simp only [csD, CV.d, rowC, ofD, argG, List.zipIdx, List.map, wRow, wD, sub, List.range, List.range.loop, Nat.reduceAdd, szR, wRow_sl, decide_eq_true_eq, decide_eq_false_iff_not, IntKind.wrap_i64, maxLen] at *; omega)
/-- laws.szFile -/
theorem ok140 : FOk Try.prog T 140 (szG [.s, .i .i64]) := by
  refine fok (env := envL []) (N := 13) tabT envL_nil mixed Try.func140 rfl Try.call140 Try.ntmps140 ?_
  rintro args ⟨a, l, wa, hl0, hl1, rfl⟩ hwf
  refine ⟨by simp, ?_⟩
  clear hwf
  have hs0 := wa.str (j := 0) rfl
  rw [Try.results140]
  repeat' first
    | (refine And.intro ?_ ?_)
    | (intro h; cases h)
    | (intro h; rw [h])
    | (intro h)
  all_goals first
    | (show lowEdges _ = true; kernel_rfl) | (show logOk _ _ = true; kernel_rfl) | trivial | exact Or.inr rfl | exact Or.inl rfl
    | exact ⟨_, _, by first | omega | (simp only [szR, wRow_sl, decide_eq_true_eq, decide_eq_false_iff_not, IntKind.wrap_i64, maxLen, Nat.reduceAdd] at *; omega), by first | omega | (simp only [szR, wRow_sl, decide_eq_true_eq, decide_eq_false_iff_not, IntKind.wrap_i64, maxLen, Nat.reduceAdd] at *; omega), rfl⟩
    | exact ⟨_, _, Nat.lt_of_lt_of_le (size_cell (by rw [wa.1]; decide)) (Nat.le_of_lt_succ hs), by first | omega | (simp only [szR, wRow_sl, decide_eq_true_eq, decide_eq_false_iff_not, IntKind.wrap_i64, maxLen, Nat.reduceAdd] at *; omega), by first | omega | (simp only [szR, wRow_sl, decide_eq_true_eq, decide_eq_false_iff_not, IntKind.wrap_i64, maxLen, Nat.reduceAdd] at *; omega), rfl⟩
    | exact ⟨sub a 0 1, _, wa.sub 0 1 (by decide), by first | omega | (simp only [szR, wRow_sl, decide_eq_true_eq, decide_eq_false_iff_not, IntKind.wrap_i64, maxLen, Nat.reduceAdd] at *; omega), by first | omega | (simp only [szR, wRow_sl, decide_eq_true_eq, decide_eq_false_iff_not, IntKind.wrap_i64, maxLen, Nat.reduceAdd] at *; omega), rfl⟩ | exact ⟨sub a 1 1, _, wa.sub 1 1 (by decide), by first | omega | (simp only [szR, wRow_sl, decide_eq_true_eq, decide_eq_false_iff_not, IntKind.wrap_i64, maxLen, Nat.reduceAdd] at *; omega), by first | omega | (simp only [szR, wRow_sl, decide_eq_true_eq, decide_eq_false_iff_not, IntKind.wrap_i64, maxLen, Nat.reduceAdd] at *; omega), rfl⟩
    | (refine resI ?_; simp only [csD, CV.d, rowC, ofD, argG, List.zipIdx, List.map, wRow, wD, sub, List.range, List.range.loop, Nat.reduceAdd]; simp only [csD, CV.d, rowC, ofD, argG, List.zipIdx, List.map, wRow, wD, sub, List.range, List.range.loop, Nat.reduceAdd, szR, wRow_sl, decide_eq_true_eq, decide_eq_false_iff_not, IntKind.wrap_i64, maxLen] at *; omega)
/-- laws.szFileS -/
theorem ok94 : FOk Try.prog T 94 (szS 183) := by
  refine fok (env := envL [(140, (szG [.s, .i .i64]))]) (N := 27) tabT (envL_cons ok140 envL_nil) mixed Try.func94 rfl Try.call94 Try.ntmps94 ?_
  rintro args ⟨a, l, hl0, hl1, rfl⟩ hwf
  have wa : WfD T (.l 183) (.l a) := arg0 hwf (List.mem_singleton_self _)
  clear hwf
  have la := wa.len
  refine ⟨by simp, ?_⟩
  rw [Try.results94]
  repeat' first
    | (refine And.intro ?_ ?_)
    | (intro h; cases h)
    | (intro h; rw [h])
    | (intro h)
  all_goals first
    | (show lowEdges _ = true; kernel_rfl) | (show logOk _ _ = true; kernel_rfl) | trivial | exact Or.inr rfl | exact Or.inl rfl
    | (refine resI ?_; have h := sub_no ‹_› hl0 hl1 la; have := szR_lt (l := l) (w := wRow (csD [.sl false 183 a])) (by rw [wRow_sl]; omega); exact this.symm)
    | skip
  obtain ⟨hb, he⟩ := sub_yes ‹_› hl0 hl1 la
  refine awp_loop (Q := _) [0, 1, 5] [] (fun n s => ∃ i : Int, s = ([argS 183 a, .val false [.i .i64 (l - a.length - wRows (a.take i.toNat))], .val false [.i .i64 i]], []) ∧ 0 ≤ i ∧ i ≤ a.length ∧ n = a.length - i.toNat ∧ 0 ≤ l - a.length - wRows (a.take i.toNat)) ?_ ?_
  · exact ⟨rfl, a.length - 0, 0, congrArg (fun z : Int => (([argS 183 a, .val false [.i .i64 z], .val false [.i .i64 0]], []) : Snap)) (by rw [he]; simp [wRows]), by omega, by omega, rfl, by simp [wRows]; omega⟩
  rintro n s ⟨i, rfl, h1, h2, h3, h4⟩
  repeat' first
    | (refine And.intro ?_ ?_)
    | (intro h; cases h)
    | (intro h; rw [h])
    | (intro h)
  all_goals first
    | (show lowEdges _ = true; kernel_rfl) | (show logOk _ _ = true; kernel_rfl) | trivial | exact Or.inr rfl | exact Or.inl rfl
    | omega
    | exact of_decide_eq_true ‹_›
    | (have hA := wRows_all h1 h2 ‹_›
       refine resI ?_
       have := szR_ge (l := l) (w := wRow (csD [.sl false 183 a])) (by rw [wRow_sl]; omega)
       rw [this, wRow_sl, hA]; omega)
    | skip
  all_goals
    have hi : i < (a.length : Int) := of_decide_eq_true ‹decide (i < (a.length : Int)) = true›
    have wr : WfRow T [.s, .i .i64] (a.getD i.toNat []) := wa.row rfl (by omega)
    have hnx := wRows_next h1 hi
    have hle := wRows_le a (i + 1).toNat
    have hrow : wRow (a.getD i.toNat []) = wRow (csD (rowC [.s, .i .i64] (a.getD i.toNat []))) := (wRow_rowC wr).symm
    first
      | exact ⟨_, _, wr, by omega, by omega, rfl⟩
      | exact ⟨_, _, wr, Nat.lt_of_lt_of_le (size_row (by omega)) (Nat.le_of_lt_succ hs), by omega, by omega, rfl⟩
      | (refine resI ?_
         have hw := szR_no (‹decide (szR (l - a.length - wRows (a.take i.toNat)) (wRow (csD (rowC [.s, .i .i64] (a.getD i.toNat [])))) < 0) = true›) h4
         have := szR_lt (l := l) (w := wRow (csD [.sl false 183 a])) (by rw [wRow_sl]; omega)
         exact this.symm)
      | (obtain ⟨hw, hv⟩ := szR_yes (‹decide (szR (l - a.length - wRows (a.take i.toNat)) (wRow (csD (rowC [.s, .i .i64] (a.getD i.toNat [])))) < 0) = false›)
         refine ⟨a.length - (i + 1).toNat, by omega, i + 1, ?_, by omega, by omega, rfl, by omega⟩
         have e2 : szR (l - a.length - wRows (a.take i.toNat)) (wRow (csD (rowC [.s, .i .i64] (a.getD i.toNat [])))) = l - a.length - wRows (a.take (i + 1).toNat) := hv.trans (by omega)
         have e3 := wrap_next h1 hi la
         exact (congrArg (fun z : Int => (([argS 183 a, .val false [.i .i64 (szR (l - a.length - wRows (a.take i.toNat)) (wRow (csD (rowC [.s, .i .i64] (a.getD i.toNat [])))))], .val false [.i .i64 z]], []) : Snap)) e3).trans (congrArg (fun z : Int => (([argS 183 a, .val false [.i .i64 z], .val false [.i .i64 (i + 1)]], []) : Snap)) e2))
/-- laws.szWorld -/
theorem ok47 : FOk Try.prog T 47 (szG [.i .i64, .i .i64, .l 183]) := by
  refine fok (env := envL [(94, (szS 183))]) (N := 12) tabT (envL_cons ok94 envL_nil) mixed Try.func47 rfl Try.call47 Try.ntmps47 ?_
  rintro args ⟨a, l, wa, hl0, hl1, rfl⟩ hwf
  refine ⟨by simp, ?_⟩
  clear hwf
  rw [Try.results47]
  repeat' first
    | (refine And.intro ?_ ?_)
    | (intro h; cases h)
    | (intro h; rw [h])
    | (intro h)
  all_goals first
    | (show lowEdges _ = true; kernel_rfl) | (show logOk _ _ = true; kernel_rfl) | trivial | exact Or.inr rfl | exact Or.inl rfl
    | exact ⟨_, _, by first | omega | (simp only [szR, wRow_sl, decide_eq_true_eq, decide_eq_false_iff_not, IntKind.wrap_i64, maxLen, Nat.reduceAdd] at *; omega), by first | omega | (simp only [szR, wRow_sl, decide_eq_true_eq, decide_eq_false_iff_not, IntKind.wrap_i64, maxLen, Nat.reduceAdd] at *; omega), rfl⟩
    | exact ⟨_, _, Nat.lt_of_lt_of_le (size_cell (by rw [wa.1]; decide)) (Nat.le_of_lt_succ hs), by first | omega | (simp only [szR, wRow_sl, decide_eq_true_eq, decide_eq_false_iff_not, IntKind.wrap_i64, maxLen, Nat.reduceAdd] at *; omega), by first | omega | (simp only [szR, wRow_sl, decide_eq_true_eq, decide_eq_false_iff_not, IntKind.wrap_i64, maxLen, Nat.reduceAdd] at *; omega), rfl⟩
    | exact ⟨sub a 0 1, _, wa.sub 0 1 (by decide), by first | omega | (simp only [szR, wRow_sl, decide_eq_true_eq, decide_eq_false_iff_not, IntKind.wrap_i64, maxLen, Nat.reduceAdd] at *; omega), by first | omega | (simp only [szR, wRow_sl, decide_eq_true_eq, decide_eq_false_iff_not, IntKind.wrap_i64, maxLen, Nat.reduceAdd] at *; omega), rfl⟩ | exact ⟨sub a 1 1, _, wa.sub 1 1 (by decide), by first | omega | (simp only [szR, wRow_sl, decide_eq_true_eq, decide_eq_false_iff_not, IntKind.wrap_i64, maxLen, Nat.reduceAdd] at *; omega), by first | omega | (simp only [szR, wRow_sl, decide_eq_true_eq, decide_eq_false_iff_not, IntKind.wrap_i64, maxLen, Nat.reduceAdd] at *; omega), rfl⟩ | exact ⟨sub a 2 1, _, wa.sub 2 1 (by decide), by first | omega | (simp only [szR, wRow_sl, decide_eq_true_eq, decide_eq_false_iff_not, IntKind.wrap_i64, maxLen, Nat.reduceAdd] at *; omega), by first | omega | (simp only [szR, wRow_sl, decide_eq_true_eq, decide_eq_false_iff_not, IntKind.wrap_i64, maxLen, Nat.reduceAdd] at *; omega), rfl⟩
    | (refine resI ?_; simp only [csD, CV.d, rowC, ofD, argG, List.zipIdx, List.map, wRow, wD, sub, List.range, List.range.loop, Nat.reduceAdd]; simp only [csD, CV.d, rowC, ofD, argG, List.zipIdx, List.map, wRow, wD, sub, List.range, List.range.loop, Nat.reduceAdd, szR, wRow_sl, decide_eq_true_eq, decide_eq_false_iff_not, IntKind.wrap_i64, maxLen] at *; omega)
/-- laws.szStringS -/
theorem ok171 : FOk Try.prog T 171 (szS 9) := by
  refine fok (env := envL []) (N := 28) tabT envL_nil mixed Try.func171 rfl Try.call171 Try.ntmps171 ?_
  rintro args ⟨a, l, hl0, hl1, rfl⟩ hwf
  have wa : WfD T (.l 9) (.l a) := arg0 hwf (List.mem_singleton_self _)
  clear hwf
  have la := wa.len
  refine ⟨by simp, ?_⟩
  rw [Try.results171]
  repeat' first
    | (refine And.intro ?_ ?_)
    | (intro h; cases h)
    | (intro h; rw [h])
    | (intro h)
  all_goals first
    | (show lowEdges _ = true; kernel_rfl) | (show logOk _ _ = true; kernel_rfl) | trivial | exact Or.inr rfl | exact Or.inl rfl
    | (refine resI ?_; have h := sub_no ‹_› hl0 hl1 la; have := szR_lt (l := l) (w := wRow (csD [.sl false 9 a])) (by rw [wRow_sl]; omega); exact this.symm)
    | skip
  obtain ⟨hb, he⟩ := sub_yes ‹_› hl0 hl1 la
  refine awp_loop (Q := _) [0, 1, 5] [] (fun n s => ∃ i : Int, s = ([argS 9 a, .val false [.i .i64 (l - a.length - wRows (a.take i.toNat))], .val false [.i .i64 i]], []) ∧ 0 ≤ i ∧ i ≤ a.length ∧ n = a.length - i.toNat ∧ 0 ≤ l - a.length - wRows (a.take i.toNat)) ?_ ?_
  · exact ⟨rfl, a.length - 0, 0, congrArg (fun z : Int => (([argS 9 a, .val false [.i .i64 z], .val false [.i .i64 0]], []) : Snap)) (by rw [he]; simp [wRows]), by omega, by omega, rfl, by simp [wRows]; omega⟩
  rintro n s ⟨i, rfl, h1, h2, h3, h4⟩
  repeat' first
    | (refine And.intro ?_ ?_)
    | (intro h; cases h)
    | (intro h; rw [h])
    | (intro h)
  all_goals first
    | (show lowEdges _ = true; kernel_rfl) | (show logOk _ _ = true; kernel_rfl) | trivial | exact Or.inr rfl | exact Or.inl rfl
    | omega
    | exact of_decide_eq_true ‹_›
    | (have hA := wRows_all h1 h2 ‹_›
       refine resI ?_
       have := szR_ge (l := l) (w := wRow (csD [.sl false 9 a])) (by rw [wRow_sl]; omega)
       rw [this, wRow_sl, hA]; omega)
    | skip
  all_goals
    have hi : i < (a.length : Int) := of_decide_eq_true ‹decide (i < (a.length : Int)) = true›
    have wr : WfRow T [.s] (a.getD i.toNat []) := wa.row rfl (by omega)
    have hnx := wRows_next h1 hi
    have hle := wRows_le a (i + 1).toNat
    have hstr := wr.str (j := 0) rfl
    have hrow : wRow (a.getD i.toNat []) = ((a.getD i.toNat []).getD 0 default).str.size := by
      rw [← wRow_rowC wr]
      simp [csD, CV.d, rowC, ofD, argG, List.zipIdx, List.map, wRow, wD, sub, List.range, List.range.loop, Nat.reduceAdd]
    first
      | exact ⟨_, _, wr, by omega, by omega, rfl⟩
      | exact ⟨_, _, wr, Nat.lt_of_lt_of_le (size_row (by omega)) (Nat.le_of_lt_succ hs), by omega, by omega, rfl⟩
      | (refine resI ?_
         have hw := sub_no (‹decide (IntKind.i64.wrap ((l - a.length - wRows (a.take i.toNat)) - ((a.getD i.toNat []).getD 0 default).str.size) < 0) = true›) h4 (by omega) hstr
         have := szR_lt (l := l) (w := wRow (csD [.sl false 9 a])) (by rw [wRow_sl]; omega)
         exact this.symm)
      | (obtain ⟨hw, hv⟩ := sub_yes (‹decide (IntKind.i64.wrap ((l - a.length - wRows (a.take i.toNat)) - ((a.getD i.toNat []).getD 0 default).str.size) < 0) = false›) h4 (by omega) hstr
         refine ⟨a.length - (i + 1).toNat, by omega, i + 1, ?_, by omega, by omega, rfl, by omega⟩
         have e2 : IntKind.i64.wrap ((l - a.length - wRows (a.take i.toNat)) - ((a.getD i.toNat []).getD 0 default).str.size) = l - a.length - wRows (a.take (i + 1).toNat) := hv.trans (by omega)
         have e3 := wrap_next h1 hi la
         exact (congrArg (fun z : Int => (([argS 9 a, .val false [.i .i64 (IntKind.i64.wrap ((l - a.length - wRows (a.take i.toNat)) - ((a.getD i.toNat []).getD 0 default).str.size))], .val false [.i .i64 z]], []) : Snap)) e3).trans (congrArg (fun z : Int => (([argS 9 a, .val false [.i .i64 z], .val false [.i .i64 (i + 1)]], []) : Snap)) e2))
/-- laws.szIntS -/
theorem ok141 : FOk Try.prog T 141 (szS 3) := by
  refine fok (env := envL []) (N := 12) tabT envL_nil mixed Try.func141 rfl Try.call141 Try.ntmps141 ?_
  rintro args ⟨a, l, hl0, hl1, rfl⟩ hwf
  have wa : WfD T (.l 3) (.l a) := arg0 hwf (List.mem_singleton_self _)
  clear hwf
  have la := wa.len
  refine ⟨by simp, ?_⟩
  rw [Try.results141]
  repeat' first
    | (refine And.intro ?_ ?_)
    | (intro h; cases h)
    | (intro h; rw [h])
    | (intro h)
  all_goals first
    | (show lowEdges _ = true; kernel_rfl) | (show logOk _ _ = true; kernel_rfl) | trivial | exact Or.inr rfl | exact Or.inl rfl
    | (refine resI ?_; have h := sub_no ‹_› hl0 hl1 la; have := szR_lt (l := l) (w := wRow (csD [.sl false 3 a])) (by rw [wRow_sl]; omega); exact this.symm)
    | skip
  have hz : wRows a = 0 := wRows_zero (cts := [.i .i64]) (fun k hk => wa.row rfl hk) (fun r hr => by
    rw [← wRow_rowC hr]
    simp [csD, CV.d, rowC, ofD, argG, List.zipIdx, List.map, wRow, wD, sub, List.range, List.range.loop, Nat.reduceAdd])
  obtain ⟨hb, he⟩ := sub_yes ‹_› hl0 hl1 la
  refine resI (he.trans ?_)
  rw [szR_ge (by rw [wRow_sl, hz]; omega), wRow_sl, hz]
  simp
/-- laws.szOriginS -/
theorem ok193 : FOk Try.prog T 193 (szS 228) := by
  refine fok (env := envL []) (N := 12) tabT envL_nil mixed Try.func193 rfl Try.call193 Try.ntmps193 ?_
  rintro args ⟨a, l, hl0, hl1, rfl⟩ hwf
  have wa : WfD T (.l 228) (.l a) := arg0 hwf (List.mem_singleton_self _)
  clear hwf
  have la := wa.len
  refine ⟨by simp, ?_⟩
  rw [Try.results193]
  repeat' first
    | (refine And.intro ?_ ?_)
    | (intro h; cases h)
    | (intro h; rw [h])
    | (intro h)
  all_goals first
    | (show lowEdges _ = true; kernel_rfl) | (show logOk _ _ = true; kernel_rfl) | trivial | exact Or.inr rfl | exact Or.inl rfl
    | (refine resI ?_; have h := sub_no ‹_› hl0 hl1 la; have := szR_lt (l := l) (w := wRow (csD [.sl false 228 a])) (by rw [wRow_sl]; omega); exact this.symm)
    | skip
  have hz : wRows a = 0 := wRows_zero (cts := [.i .i64, .i .i64]) (fun k hk => wa.row rfl hk) (fun r hr => by
    rw [← wRow_rowC hr]
    simp [csD, CV.d, rowC, ofD, argG, List.zipIdx, List.map, wRow, wD, sub, List.range, List.range.loop, Nat.reduceAdd])
  obtain ⟨hb, he⟩ := sub_yes ‹_› hl0 hl1 la
  refine resI (he.trans ?_)
  rw [szR_ge (by rw [wRow_sl, hz]; omega), wRow_sl, hz]
  simp
/-- laws.szRow -/
theorem ok186 : FOk Try.prog T 186 (szG [.l 3, .l 228]) := by
  refine fok (env := envL [(141, (szS 3)), (193, (szS 228))]) (N := 18) tabT (envL_cons ok141 (envL_cons ok193 envL_nil)) mixed Try.func186 rfl Try.call186 Try.ntmps186 ?_
  rintro args ⟨a, l, wa, hl0, hl1, rfl⟩ hwf
  refine ⟨by simp, ?_⟩
  clear hwf
  rw [Try.results186]
  repeat' first
    | (refine And.intro ?_ ?_)
    | (intro h; cases h)
    | (intro h; rw [h])
    | (intro h)
  all_goals first
    | (show lowEdges _ = true; kernel_rfl) | (show logOk _ _ = true; kernel_rfl) | trivial | exact Or.inr rfl | exact Or.inl rfl
    | exact ⟨_, _, by first | omega | (simp only [szR, wRow_sl, decide_eq_true_eq, decide_eq_false_iff_not, IntKind.wrap_i64, maxLen, Nat.reduceAdd] at *; omega), by first | omega | (simp only [szR, wRow_sl, decide_eq_true_eq, decide_eq_false_iff_not, IntKind.wrap_i64, maxLen, Nat.reduceAdd] at *; omega), rfl⟩
    | exact ⟨_, _, Nat.lt_of_lt_of_le (size_cell (by rw [wa.1]; decide)) (Nat.le_of_lt_succ hs), by first | omega | (simp only [szR, wRow_sl, decide_eq_true_eq, decide_eq_false_iff_not, IntKind.wrap_i64, maxLen, Nat.reduceAdd] at *; omega), by first | omega | (simp only [szR, wRow_sl, decide_eq_true_eq, decide_eq_false_iff_not, IntKind.wrap_i64, maxLen, Nat.reduceAdd] at *; omega), rfl⟩
    | exact ⟨sub a 0 1, _, wa.sub 0 1 (by decide), by first | omega | (simp only [szR, wRow_sl, decide_eq_true_eq, decide_eq_false_iff_not, IntKind.wrap_i64, maxLen, Nat.reduceAdd] at *; omega), by first | omega | (simp only [szR, wRow_sl, decide_eq_true_eq, decide_eq_false_iff_not, IntKind.wrap_i64, maxLen, Nat.reduceAdd] at *; omega), rfl⟩ | exact ⟨sub a 1 1, _, wa.sub 1 1 (by decide), by first | omega | (simp only [szR, wRow_sl, decide_eq_true_eq, decide_eq_false_iff_not, IntKind.wrap_i64, maxLen, Nat.reduceAdd] at *; omega), by first | omega | (simp only [szR, wRow_sl, decide_eq_true_eq, decide_eq_false_iff_not, IntKind.wrap_i64, maxLen, Nat.reduceAdd] at *; omega), rfl⟩
    | (refine resI ?_; simp only [csD, CV.d, rowC, ofD, argG, List.zipIdx, List.map, wRow, wD, sub, List.range, List.range.loop, Nat.reduceAdd]; simp only [csD, CV.d, rowC, ofD, argG, List.zipIdx, List.map, wRow, wD, sub, List.range, List.range.loop, Nat.reduceAdd, szR, wRow_sl, decide_eq_true_eq, decide_eq_false_iff_not, IntKind.wrap_i64, maxLen] at *; omega)
/-- laws.szRowS -/
theorem ok172 : FOk Try.prog T 172 (szS 218) := by
  refine fok (env := envL [(186, (szG [.l 3, .l 228]))]) (N := 27) tabT (envL_cons ok186 envL_nil) mixed Try.func172 rfl Try.call172 Try.ntmps172 ?_
  rintro args ⟨a, l, hl0, hl1, rfl⟩ hwf
  have wa : WfD T (.l 218) (.l a) := arg0 hwf (List.mem_singleton_self _)
  clear hwf
  have la := wa.len
  refine ⟨by simp, ?_⟩
  rw [Try.results172]
  repeat' first
    | (refine And.intro ?_ ?_)
    | (intro h; cases h)
    | (intro h; rw [h])
    | (intro h)
  all_goals first
    | (show lowEdges _ = true; kernel_rfl) | (show logOk _ _ = true; kernel_rfl) | trivial | exact Or.inr rfl | exact Or.inl rfl
    | (refine resI ?_; have h := sub_no ‹_› hl0 hl1 la; have := szR_lt (l := l) (w := wRow (csD [.sl false 218 a])) (by rw [wRow_sl]; omega); exact this.symm)
    | skip
  obtain ⟨hb, he⟩ := sub_yes ‹_› hl0 hl1 la
  refine awp_loop (Q := _) [0, 1, 5] [] (fun n s => ∃ i : Int, s = ([argS 218 a, .val false [.i .i64 (l - a.length - wRows (a.take i.toNat))], .val false [.i .i64 i]], []) ∧ 0 ≤ i ∧ i ≤ a.length ∧ n = a.length - i.toNat ∧ 0 ≤ l - a.length - wRows (a.take i.toNat)) ?_ ?_
  · exact ⟨rfl, a.length - 0, 0, congrArg (fun z : Int => (([argS 218 a, .val false [.i .i64 z], .val false [.i .i64 0]], []) : Snap)) (by rw [he]; simp [wRows]), by omega, by omega, rfl, by simp [wRows]; omega⟩
  rintro n s ⟨i, rfl, h1, h2, h3, h4⟩
  repeat' first
    | (refine And.intro ?_ ?_)
    | (intro h; cases h)
    | (intro h; rw [h])
    | (intro h)
  all_goals first
    | (show lowEdges _ = true; kernel_rfl) | (show logOk _ _ = true; kernel_rfl) | trivial | exact Or.inr rfl | exact Or.inl rfl
    | omega
    | exact of_decide_eq_true ‹_›
    | (have hA := wRows_all h1 h2 ‹_›
       refine resI ?_
       have := szR_ge (l := l) (w := wRow (csD [.sl false 218 a])) (by rw [wRow_sl]; omega)
       rw [this, wRow_sl, hA]; omega)
    | skip
  all_goals
    have hi : i < (a.length : Int) := of_decide_eq_true ‹decide (i < (a.length : Int)) = true›
    have wr : WfRow T [.l 3, .l 228] (a.getD i.toNat []) := wa.row rfl (by omega)
    have hnx := wRows_next h1 hi
    have hle := wRows_le a (i + 1).toNat
    have hrow : wRow (a.getD i.toNat []) = wRow (csD (rowC [.l 3, .l 228] (a.getD i.toNat []))) := (wRow_rowC wr).symm
    first
      | exact ⟨_, _, wr, by omega, by omega, rfl⟩
      | exact ⟨_, _, wr, Nat.lt_of_lt_of_le (size_row (by omega)) (Nat.le_of_lt_succ hs), by omega, by omega, rfl⟩
      | (refine resI ?_
         have hw := szR_no (‹decide (szR (l - a.length - wRows (a.take i.toNat)) (wRow (csD (rowC [.l 3, .l 228] (a.getD i.toNat [])))) < 0) = true›) h4
         have := szR_lt (l := l) (w := wRow (csD [.sl false 218 a])) (by rw [wRow_sl]; omega)
         exact this.symm)
      | (obtain ⟨hw, hv⟩ := szR_yes (‹decide (szR (l - a.length - wRows (a.take i.toNat)) (wRow (csD (rowC [.l 3, .l 228] (a.getD i.toNat [])))) < 0) = false›)
         refine ⟨a.length - (i + 1).toNat, by omega, i + 1, ?_, by omega, by omega, rfl, by omega⟩
         have e2 : szR (l - a.length - wRows (a.take i.toNat)) (wRow (csD (rowC [.l 3, .l 228] (a.getD i.toNat [])))) = l - a.length - wRows (a.take (i + 1).toNat) := hv.trans (by omega)
         have e3 := wrap_next h1 hi la
         exact (congrArg (fun z : Int => (([argS 218 a, .val false [.i .i64 (szR (l - a.length - wRows (a.take i.toNat)) (wRow (csD (rowC [.l 3, .l 228] (a.getD i.toNat [])))))], .val false [.i .i64 z]], []) : Snap)) e3).trans (congrArg (fun z : Int => (([argS 218 a, .val false [.i .i64 z], .val false [.i .i64 (i + 1)]], []) : Snap)) e2))
/-- laws.szValue -/
theorem step142 (n : Nat) (hn : FOk Try.prog T 170 (szSn 142 n)) : FOk Try.prog T 142 (szGn [.i .i64, .i .i64, .i .i64, .s, .l 142, .l 9, .l 218] (n + 1)) := by
  refine fok (env := envL [(170, (szSn 142 n)), (171, (szS 9)), (172, (szS 218))]) (N := 31) tabT (envL_cons hn (envL_cons ok171 (envL_cons ok172 envL_nil))) mixed Try.func142 rfl Try.call142 Try.ntmps142 ?_
  rintro args ⟨a, l, wa, hs, hl0, hl1, rfl⟩ hwf
  refine ⟨by simp, ?_⟩
  clear hwf
  have hs3 := wa.str (j := 3) rfl
  rw [Try.results142]
  repeat' first
    | (refine And.intro ?_ ?_)
    | (intro h; cases h)
    | (intro h; rw [h])
    | (intro h)
  all_goals first
    | (show lowEdges _ = true; kernel_rfl) | (show logOk _ _ = true; kernel_rfl) | trivial | exact Or.inr rfl | exact Or.inl rfl
    | exact ⟨_, _, by first | omega | (simp only [szR, wRow_sl, decide_eq_true_eq, decide_eq_false_iff_not, IntKind.wrap_i64, maxLen, Nat.reduceAdd] at *; omega), by first | omega | (simp only [szR, wRow_sl, decide_eq_true_eq, decide_eq_false_iff_not, IntKind.wrap_i64, maxLen, Nat.reduceAdd] at *; omega), rfl⟩
    | exact ⟨_, _, Nat.lt_of_lt_of_le (size_cell (by rw [wa.1]; decide)) (Nat.le_of_lt_succ hs), by first | omega | (simp only [szR, wRow_sl, decide_eq_true_eq, decide_eq_false_iff_not, IntKind.wrap_i64, maxLen, Nat.reduceAdd] at *; omega), by first | omega | (simp only [szR, wRow_sl, decide_eq_true_eq, decide_eq_false_iff_not, IntKind.wrap_i64, maxLen, Nat.reduceAdd] at *; omega), rfl⟩
    | exact ⟨sub a 0 1, _, wa.sub 0 1 (by decide), by first | omega | (simp only [szR, wRow_sl, decide_eq_true_eq, decide_eq_false_iff_not, IntKind.wrap_i64, maxLen, Nat.reduceAdd] at *; omega), by first | omega | (simp only [szR, wRow_sl, decide_eq_true_eq, decide_eq_false_iff_not, IntKind.wrap_i64, maxLen, Nat.reduceAdd] at *; omega), rfl⟩ | exact ⟨sub a 1 1, _, wa.sub 1 1 (by decide), by first | omega | (simp only [szR, wRow_sl, decide_eq_true_eq, decide_eq_false_iff_not, IntKind.wrap_i64, maxLen, Nat.reduceAdd] at *; omega), by first | omega | (simp only [szR, wRow_sl, decide_eq_true_eq, decide_eq_false_iff_not, IntKind.wrap_i64, maxLen, Nat.reduceAdd] at *; omega), rfl⟩ | exact ⟨sub a 2 1, _, wa.sub 2 1 (by decide), by first | omega | (simp only [szR, wRow_sl, decide_eq_true_eq, decide_eq_false_iff_not, IntKind.wrap_i64, maxLen, Nat.reduceAdd] at *; omega), by first | omega | (simp only [szR, wRow_sl, decide_eq_true_eq, decide_eq_false_iff_not, IntKind.wrap_i64, maxLen, Nat.reduceAdd] at *; omega), rfl⟩ | exact ⟨sub a 3 1, _, wa.sub 3 1 (by decide), by first | omega | (simp only [szR, wRow_sl, decide_eq_true_eq, decide_eq_false_iff_not, IntKind.wrap_i64, maxLen, Nat.reduceAdd] at *; omega), by first | omega | (simp only [szR, wRow_sl, decide_eq_true_eq, decide_eq_false_iff_not, IntKind.wrap_i64, maxLen, Nat.reduceAdd] at *; omega), rfl⟩ | exact ⟨sub a 4 1, _, wa.sub 4 1 (by decide), by first | omega | (simp only [szR, wRow_sl, decide_eq_true_eq, decide_eq_false_iff_not, IntKind.wrap_i64, maxLen, Nat.reduceAdd] at *; omega), by first | omega | (simp only [szR, wRow_sl, decide_eq_true_eq, decide_eq_false_iff_not, IntKind.wrap_i64, maxLen, Nat.reduceAdd] at *; omega), rfl⟩ | exact ⟨sub a 5 1, _, wa.sub 5 1 (by decide), by first | omega | (simp only [szR, wRow_sl, decide_eq_true_eq, decide_eq_false_iff_not, IntKind.wrap_i64, maxLen, Nat.reduceAdd] at *; omega), by first | omega | (simp only [szR, wRow_sl, decide_eq_true_eq, decide_eq_false_iff_not, IntKind.wrap_i64, maxLen, Nat.reduceAdd] at *; omega), rfl⟩ | exact ⟨sub a 6 1, _, wa.sub 6 1 (by decide), by first | omega | (simp only [szR, wRow_sl, decide_eq_true_eq, decide_eq_false_iff_not, IntKind.wrap_i64, maxLen, Nat.reduceAdd] at *; omega), by first | omega | (simp only [szR, wRow_sl, decide_eq_true_eq, decide_eq_false_iff_not, IntKind.wrap_i64, maxLen, Nat.reduceAdd] at *; omega), rfl⟩
    | (refine resI ?_; simp only [csD, CV.d, rowC, ofD, argG, List.zipIdx, List.map, wRow, wD, sub, List.range, List.range.loop, Nat.reduceAdd]; simp only [csD, CV.d, rowC, ofD, argG, List.zipIdx, List.map, wRow, wD, sub, List.range, List.range.loop, Nat.reduceAdd, szR, wRow_sl, decide_eq_true_eq, decide_eq_false_iff_not, IntKind.wrap_i64, maxLen] at *; omega)
/-- laws.szValueS -/
theorem step170 (n : Nat) (hn : FOk Try.prog T 142 (szGn [.i .i64, .i .i64, .i .i64, .s, .l 142, .l 9, .l 218] n)) : FOk Try.prog T 170 (szSn 142 (n + 1)) := by
  refine fok (env := envL [(142, (szGn [.i .i64, .i .i64, .i .i64, .s, .l 142, .l 9, .l 218] n))]) (N := 27) tabT (envL_cons hn envL_nil) mixed Try.func170 rfl Try.call170 Try.ntmps170 ?_
  rintro args ⟨a, l, hs, hl0, hl1, rfl⟩ hwf
  have wa : WfD T (.l 142) (.l a) := arg0 hwf (List.mem_singleton_self _)
  clear hwf
  have la := wa.len
  refine ⟨by simp, ?_⟩
  rw [Try.results170]
  repeat' first
    | (refine And.intro ?_ ?_)
    | (intro h; cases h)
    | (intro h; rw [h])
    | (intro h)
  all_goals first
    | (show lowEdges _ = true; kernel_rfl) | (show logOk _ _ = true; kernel_rfl) | trivial | exact Or.inr rfl | exact Or.inl rfl
    | (refine resI ?_; have h := sub_no ‹_› hl0 hl1 la; have := szR_lt (l := l) (w := wRow (csD [.sl false 142 a])) (by rw [wRow_sl]; omega); exact this.symm)
    | skip
  obtain ⟨hb, he⟩ := sub_yes ‹_› hl0 hl1 la
  refine awp_loop (Q := _) [0, 1, 5] [] (fun n s => ∃ i : Int, s = ([argS 142 a, .val false [.i .i64 (l - a.length - wRows (a.take i.toNat))], .val false [.i .i64 i]], []) ∧ 0 ≤ i ∧ i ≤ a.length ∧ n = a.length - i.toNat ∧ 0 ≤ l - a.length - wRows (a.take i.toNat)) ?_ ?_
  · exact ⟨rfl, a.length - 0, 0, congrArg (fun z : Int => (([argS 142 a, .val false [.i .i64 z], .val false [.i .i64 0]], []) : Snap)) (by rw [he]; simp [wRows]), by omega, by omega, rfl, by simp [wRows]; omega⟩
  rintro n s ⟨i, rfl, h1, h2, h3, h4⟩
  repeat' first
    | (refine And.intro ?_ ?_)
    | (intro h; cases h)
    | (intro h; rw [h])
    | (intro h)
  all_goals first
    | (show lowEdges _ = true; kernel_rfl) | (show logOk _ _ = true; kernel_rfl) | trivial | exact Or.inr rfl | exact Or.inl rfl
    | omega
    | exact of_decide_eq_true ‹_›
    | (have hA := wRows_all h1 h2 ‹_›
       refine resI ?_
       have := szR_ge (l := l) (w := wRow (csD [.sl false 142 a])) (by rw [wRow_sl]; omega)
       rw [this, wRow_sl, hA]; omega)
    | skip
  all_goals
    have hi : i < (a.length : Int) := of_decide_eq_true ‹decide (i < (a.length : Int)) = true›
    have wr : WfRow T [.i .i64, .i .i64, .i .i64, .s, .l 142, .l 9, .l 218] (a.getD i.toNat []) := wa.row rfl (by omega)
    have hnx := wRows_next h1 hi
    have hle := wRows_le a (i + 1).toNat
    have hrow : wRow (a.getD i.toNat []) = wRow (csD (rowC [.i .i64, .i .i64, .i .i64, .s, .l 142, .l 9, .l 218] (a.getD i.toNat []))) := (wRow_rowC wr).symm
    first
      | exact ⟨_, _, wr, by omega, by omega, rfl⟩
      | exact ⟨_, _, wr, Nat.lt_of_lt_of_le (size_row (by omega)) (Nat.le_of_lt_succ hs), by omega, by omega, rfl⟩
      | (refine resI ?_
         have hw := szR_no (‹decide (szR (l - a.length - wRows (a.take i.toNat)) (wRow (csD (rowC [.i .i64, .i .i64, .i .i64, .s, .l 142, .l 9, .l 218] (a.getD i.toNat [])))) < 0) = true›) h4
         have := szR_lt (l := l) (w := wRow (csD [.sl false 142 a])) (by rw [wRow_sl]; omega)
         exact this.symm)
      | (obtain ⟨hw, hv⟩ := szR_yes (‹decide (szR (l - a.length - wRows (a.take i.toNat)) (wRow (csD (rowC [.i .i64, .i .i64, .i .i64, .s, .l 142, .l 9, .l 218] (a.getD i.toNat [])))) < 0) = false›)
         refine ⟨a.length - (i + 1).toNat, by omega, i + 1, ?_, by omega, by omega, rfl, by omega⟩
         have e2 : szR (l - a.length - wRows (a.take i.toNat)) (wRow (csD (rowC [.i .i64, .i .i64, .i .i64, .s, .l 142, .l 9, .l 218] (a.getD i.toNat [])))) = l - a.length - wRows (a.take (i + 1).toNat) := hv.trans (by omega)
         have e3 := wrap_next h1 hi la
         exact (congrArg (fun z : Int => (([argS 142 a, .val false [.i .i64 (szR (l - a.length - wRows (a.take i.toNat)) (wRow (csD (rowC [.i .i64, .i .i64, .i .i64, .s, .l 142, .l 9, .l 218] (a.getD i.toNat [])))))], .val false [.i .i64 z]], []) : Snap)) e3).trans (congrArg (fun z : Int => (([argS 142 a, .val false [.i .i64 z], .val false [.i .i64 (i + 1)]], []) : Snap)) e2))
theorem zero142 : FOk Try.prog T 142 (szGn [.i .i64, .i .i64, .i .i64, .s, .l 142, .l 9, .l 218] 0) := by
  refine fok (env := envL []) (N := 31) tabT envL_nil mixed Try.func142 rfl Try.call142 Try.ntmps142 ?_
  rintro args ⟨a, l, wa, hs, hl0, hl1, rfl⟩ _
  exact absurd hs (Nat.not_lt_zero _)
theorem zero170 : FOk Try.prog T 170 (szSn 142 0) := by
  refine fok (env := envL []) (N := 27) tabT envL_nil mixed Try.func170 rfl Try.call170 Try.ntmps170 ?_
  rintro args ⟨a, l, hs, hl0, hl1, rfl⟩ _
  exact absurd hs (Nat.not_lt_zero _)
theorem both142 (n : Nat) : FOk Try.prog T 142 (szGn [.i .i64, .i .i64, .i .i64, .s, .l 142, .l 9, .l 218] n) ∧ FOk Try.prog T 170 (szSn 142 n) := by
  induction n with
  | zero => exact ⟨zero142, zero170⟩
  | succ n ih => exact ⟨step142 n ih.2, step170 n ih.1⟩
theorem ok142 : FOk Try.prog T 142 (szG [.i .i64, .i .i64, .i .i64, .s, .l 142, .l 9, .l 218]) := FOk.lift (s := fun n => (szGn [.i .i64, .i .i64, .i .i64, .s, .l 142, .l 9, .l 218] n)) (fun n => (both142 n).1) (fun args ⟨a, l, wa, h0, h1, h⟩ => ⟨SizeOf.sizeOf a + 1, a, l, wa, Nat.lt_succ_self _, h0, h1, h⟩) (fun n => rfl)
theorem ok170 : FOk Try.prog T 170 (szS 142) := FOk.lift (s := fun n => (szSn 142 n)) (fun n => (both142 n).2) (fun args ⟨a, l, h0, h1, h⟩ => ⟨SizeOf.sizeOf a + 1, a, l, Nat.lt_succ_self _, h0, h1, h⟩) (fun n => rfl)
/-- laws.szRead -/
theorem ok132 : FOk Try.prog T 132 (szG [.i .i64, .i .i64, .i .i64, .s, .i .i64, .i .i64, .i .i64, .s, .l 142, .l 9, .l 218]) := by
  refine fok (env := envL [(142, (szG [.i .i64, .i .i64, .i .i64, .s, .l 142, .l 9, .l 218]))]) (N := 19) tabT (envL_cons ok142 envL_nil) mixed Try.func132 rfl Try.call132 Try.ntmps132 ?_
  rintro args ⟨a, l, wa, hl0, hl1, rfl⟩ hwf
  refine ⟨by simp, ?_⟩
  clear hwf
  have hs3 := wa.str (j := 3) rfl
  have hs7 := wa.str (j := 7) rfl
  rw [Try.results132]
  repeat' first
    | (refine And.intro ?_ ?_)
    | (intro h; cases h)
    | (intro h; rw [h])
    | (intro h)
  all_goals first
    | (show lowEdges _ = true; kernel_rfl) | (show logOk _ _ = true; kernel_rfl) | trivial | exact Or.inr rfl | exact Or.inl rfl
    | exact ⟨_, _, by first | omega | (simp only [szR, wRow_sl, decide_eq_true_eq, decide_eq_false_iff_not, IntKind.wrap_i64, maxLen, Nat.reduceAdd] at *; omega), by first | omega | (simp only [szR, wRow_sl, decide_eq_true_eq, decide_eq_false_iff_not, IntKind.wrap_i64, maxLen, Nat.reduceAdd] at *; omega), rfl⟩
    | exact ⟨_, _, Nat.lt_of_lt_of_le (size_cell (by rw [wa.1]; decide)) (Nat.le_of_lt_succ hs), by first | omega | (simp only [szR, wRow_sl, decide_eq_true_eq, decide_eq_false_iff_not, IntKind.wrap_i64, maxLen, Nat.reduceAdd] at *; omega), by first | omega | (simp only [szR, wRow_sl, decide_eq_true_eq, decide_eq_false_iff_not, IntKind.wrap_i64, maxLen, Nat.reduceAdd] at *; omega), rfl⟩
    | exact ⟨sub a 0 1, _, wa.sub 0 1 (by decide), by first | omega | (simp only [szR, wRow_sl, decide_eq_true_eq, decide_eq_false_iff_not, IntKind.wrap_i64, maxLen, Nat.reduceAdd] at *; omega), by first | omega | (simp only [szR, wRow_sl, decide_eq_true_eq, decide_eq_false_iff_not, IntKind.wrap_i64, maxLen, Nat.reduceAdd] at *; omega), rfl⟩ | exact ⟨sub a 1 1, _, wa.sub 1 1 (by decide), by first | omega | (simp only [szR, wRow_sl, decide_eq_true_eq, decide_eq_false_iff_not, IntKind.wrap_i64, maxLen, Nat.reduceAdd] at *; omega), by first | omega | (simp only [szR, wRow_sl, decide_eq_true_eq, decide_eq_false_iff_not, IntKind.wrap_i64, maxLen, Nat.reduceAdd] at *; omega), rfl⟩ | exact ⟨sub a 2 1, _, wa.sub 2 1 (by decide), by first | omega | (simp only [szR, wRow_sl, decide_eq_true_eq, decide_eq_false_iff_not, IntKind.wrap_i64, maxLen, Nat.reduceAdd] at *; omega), by first | omega | (simp only [szR, wRow_sl, decide_eq_true_eq, decide_eq_false_iff_not, IntKind.wrap_i64, maxLen, Nat.reduceAdd] at *; omega), rfl⟩ | exact ⟨sub a 3 1, _, wa.sub 3 1 (by decide), by first | omega | (simp only [szR, wRow_sl, decide_eq_true_eq, decide_eq_false_iff_not, IntKind.wrap_i64, maxLen, Nat.reduceAdd] at *; omega), by first | omega | (simp only [szR, wRow_sl, decide_eq_true_eq, decide_eq_false_iff_not, IntKind.wrap_i64, maxLen, Nat.reduceAdd] at *; omega), rfl⟩ | exact ⟨sub a 4 7, _, wa.sub 4 7 (by decide), by first | omega | (simp only [szR, wRow_sl, decide_eq_true_eq, decide_eq_false_iff_not, IntKind.wrap_i64, maxLen, Nat.reduceAdd] at *; omega), by first | omega | (simp only [szR, wRow_sl, decide_eq_true_eq, decide_eq_false_iff_not, IntKind.wrap_i64, maxLen, Nat.reduceAdd] at *; omega), rfl⟩
    | (refine resI ?_; simp only [csD, CV.d, rowC, ofD, argG, List.zipIdx, List.map, wRow, wD, sub, List.range, List.range.loop, Nat.reduceAdd]; simp only [csD, CV.d, rowC, ofD, argG, List.zipIdx, List.map, wRow, wD, sub, List.range, List.range.loop, Nat.reduceAdd, szR, wRow_sl, decide_eq_true_eq, decide_eq_false_iff_not, IntKind.wrap_i64, maxLen] at *; omega)
/-- laws.szReadS -/
theorem ok83 : FOk Try.prog T 83 (szS 176) := by
  refine fok (env := envL [(132, (szG [.i .i64, .i .i64, .i .i64, .s, .i .i64, .i .i64, .i .i64, .s, .l 142, .l 9, .l 218]))]) (N := 27) tabT (envL_cons ok132 envL_nil) mixed Try.func83 rfl Try.call83 Try.ntmps83 ?_
  rintro args ⟨a, l, hl0, hl1, rfl⟩ hwf
  have wa : WfD T (.l 176) (.l a) := arg0 hwf (List.mem_singleton_self _)
  clear hwf
  have la := wa.len
  refine ⟨by simp, ?_⟩
  rw [Try.results83]
  repeat' first
    | (refine And.intro ?_ ?_)
    | (intro h; cases h)
    | (intro h; rw [h])
    | (intro h)
  all_goals first
    | (show lowEdges _ = true; kernel_rfl) | (show logOk _ _ = true; kernel_rfl) | trivial | exact Or.inr rfl | exact Or.inl rfl
    | (refine resI ?_; have h := sub_no ‹_› hl0 hl1 la; have := szR_lt (l := l) (w := wRow (csD [.sl false 176 a])) (by rw [wRow_sl]; omega); exact this.symm)
    | skip
  obtain ⟨hb, he⟩ := sub_yes ‹_› hl0 hl1 la
  refine awp_loop (Q := _) [0, 1, 5] [] (fun n s => ∃ i : Int, s = ([argS 176 a, .val false [.i .i64 (l - a.length - wRows (a.take i.toNat))], .val false [.i .i64 i]], []) ∧ 0 ≤ i ∧ i ≤ a.length ∧ n = a.length - i.toNat ∧ 0 ≤ l - a.length - wRows (a.take i.toNat)) ?_ ?_
  · exact ⟨rfl, a.length - 0, 0, congrArg (fun z : Int => (([argS 176 a, .val false [.i .i64 z], .val false [.i .i64 0]], []) : Snap)) (by rw [he]; simp [wRows]), by omega, by omega, rfl, by simp [wRows]; omega⟩
  rintro n s ⟨i, rfl, h1, h2, h3, h4⟩
  repeat' first
    | (refine And.intro ?_ ?_)
    | (intro h; cases h)
    | (intro h; rw [h])
    | (intro h)
  all_goals first
    | (show lowEdges _ = true; kernel_rfl) | (show logOk _ _ = true; kernel_rfl) | trivial | exact Or.inr rfl | exact Or.inl rfl
    | omega
    | exact of_decide_eq_true ‹_›
    | (have hA := wRows_all h1 h2 ‹_›
       refine resI ?_
       have := szR_ge (l := l) (w := wRow (csD [.sl false 176 a])) (by rw [wRow_sl]; omega)
       rw [this, wRow_sl, hA]; omega)
    | skip
  all_goals
    have hi : i < (a.length : Int) := of_decide_eq_true ‹decide (i < (a.length : Int)) = true›
    have wr : WfRow T [.i .i64, .i .i64, .i .i64, .s, .i .i64, .i .i64, .i .i64, .s, .l 142, .l 9, .l 218] (a.getD i.toNat []) := wa.row rfl (by omega)
    have hnx := wRows_next h1 hi
    have hle := wRows_le a (i + 1).toNat
    have hrow : wRow (a.getD i.toNat []) = wRow (csD (rowC [.i .i64, .i .i64, .i .i64, .s, .i .i64, .i .i64, .i .i64, .s, .l 142, .l 9, .l 218] (a.getD i.toNat []))) := (wRow_rowC wr).symm
    first
      | exact ⟨_, _, wr, by omega, by omega, rfl⟩
      | exact ⟨_, _, wr, Nat.lt_of_lt_of_le (size_row (by omega)) (Nat.le_of_lt_succ hs), by omega, by omega, rfl⟩
      | (refine resI ?_
         have hw := szR_no (‹decide (szR (l - a.length - wRows (a.take i.toNat)) (wRow (csD (rowC [.i .i64, .i .i64, .i .i64, .s, .i .i64, .i .i64, .i .i64, .s, .l 142, .l 9, .l 218] (a.getD i.toNat [])))) < 0) = true›) h4
         have := szR_lt (l := l) (w := wRow (csD [.sl false 176 a])) (by rw [wRow_sl]; omega)
         exact this.symm)
      | (obtain ⟨hw, hv⟩ := szR_yes (‹decide (szR (l - a.length - wRows (a.take i.toNat)) (wRow (csD (rowC [.i .i64, .i .i64, .i .i64, .s, .i .i64, .i .i64, .i .i64, .s, .l 142, .l 9, .l 218] (a.getD i.toNat [])))) < 0) = false›)
         refine ⟨a.length - (i + 1).toNat, by omega, i + 1, ?_, by omega, by omega, rfl, by omega⟩
         have e2 : szR (l - a.length - wRows (a.take i.toNat)) (wRow (csD (rowC [.i .i64, .i .i64, .i .i64, .s, .i .i64, .i .i64, .i .i64, .s, .l 142, .l 9, .l 218] (a.getD i.toNat [])))) = l - a.length - wRows (a.take (i + 1).toNat) := hv.trans (by omega)
         have e3 := wrap_next h1 hi la
         exact (congrArg (fun z : Int => (([argS 176 a, .val false [.i .i64 (szR (l - a.length - wRows (a.take i.toNat)) (wRow (csD (rowC [.i .i64, .i .i64, .i .i64, .s, .i .i64, .i .i64, .i .i64, .s, .l 142, .l 9, .l 218] (a.getD i.toNat [])))))], .val false [.i .i64 z]], []) : Snap)) e3).trans (congrArg (fun z : Int => (([argS 176 a, .val false [.i .i64 z], .val false [.i .i64 (i + 1)]], []) : Snap)) e2))
/-- laws.szTape -/
theorem ok41 : FOk Try.prog T 41 (szG [.i .i64, .i .i64, .l 176]) := by
  refine fok (env := envL [(83, (szS 176))]) (N := 12) tabT (envL_cons ok83 envL_nil) mixed Try.func41 rfl Try.call41 Try.ntmps41 ?_
  rintro args ⟨a, l, wa, hl0, hl1, rfl⟩ hwf
  refine ⟨by simp, ?_⟩
  clear hwf
  rw [Try.results41]
  repeat' first
    | (refine And.intro ?_ ?_)
    | (intro h; cases h)
    | (intro h; rw [h])
    | (intro h)
  all_goals first
    | (show lowEdges _ = true; kernel_rfl) | (show logOk _ _ = true; kernel_rfl) | trivial | exact Or.inr rfl | exact Or.inl rfl
    | exact ⟨_, _, by first | omega | (simp only [szR, wRow_sl, decide_eq_true_eq, decide_eq_false_iff_not, IntKind.wrap_i64, maxLen, Nat.reduceAdd] at *; omega), by first | omega | (simp only [szR, wRow_sl, decide_eq_true_eq, decide_eq_false_iff_not, IntKind.wrap_i64, maxLen, Nat.reduceAdd] at *; omega), rfl⟩
    | exact ⟨_, _, Nat.lt_of_lt_of_le (size_cell (by rw [wa.1]; decide)) (Nat.le_of_lt_succ hs), by first | omega | (simp only [szR, wRow_sl, decide_eq_true_eq, decide_eq_false_iff_not, IntKind.wrap_i64, maxLen, Nat.reduceAdd] at *; omega), by first | omega | (simp only [szR, wRow_sl, decide_eq_true_eq, decide_eq_false_iff_not, IntKind.wrap_i64, maxLen, Nat.reduceAdd] at *; omega), rfl⟩
    | exact ⟨sub a 0 1, _, wa.sub 0 1 (by decide), by first | omega | (simp only [szR, wRow_sl, decide_eq_true_eq, decide_eq_false_iff_not, IntKind.wrap_i64, maxLen, Nat.reduceAdd] at *; omega), by first | omega | (simp only [szR, wRow_sl, decide_eq_true_eq, decide_eq_false_iff_not, IntKind.wrap_i64, maxLen, Nat.reduceAdd] at *; omega), rfl⟩ | exact ⟨sub a 1 1, _, wa.sub 1 1 (by decide), by first | omega | (simp only [szR, wRow_sl, decide_eq_true_eq, decide_eq_false_iff_not, IntKind.wrap_i64, maxLen, Nat.reduceAdd] at *; omega), by first | omega | (simp only [szR, wRow_sl, decide_eq_true_eq, decide_eq_false_iff_not, IntKind.wrap_i64, maxLen, Nat.reduceAdd] at *; omega), rfl⟩ | exact ⟨sub a 2 1, _, wa.sub 2 1 (by decide), by first | omega | (simp only [szR, wRow_sl, decide_eq_true_eq, decide_eq_false_iff_not, IntKind.wrap_i64, maxLen, Nat.reduceAdd] at *; omega), by first | omega | (simp only [szR, wRow_sl, decide_eq_true_eq, decide_eq_false_iff_not, IntKind.wrap_i64, maxLen, Nat.reduceAdd] at *; omega), rfl⟩
    | (refine resI ?_; simp only [csD, CV.d, rowC, ofD, argG, List.zipIdx, List.map, wRow, wD, sub, List.range, List.range.loop, Nat.reduceAdd]; simp only [csD, CV.d, rowC, ofD, argG, List.zipIdx, List.map, wRow, wD, sub, List.range, List.range.loop, Nat.reduceAdd, szR, wRow_sl, decide_eq_true_eq, decide_eq_false_iff_not, IntKind.wrap_i64, maxLen] at *; omega)
/-- laws.szTapeS -/
theorem ok13 : FOk Try.prog T 13 (szS 95) := by
  refine fok (env := envL [(41, (szG [.i .i64, .i .i64, .l 176]))]) (N := 27) tabT (envL_cons ok41 envL_nil) mixed Try.func13 rfl Try.call13 Try.ntmps13 ?_
  rintro args ⟨a, l, hl0, hl1, rfl⟩ hwf
  have wa : WfD T (.l 95) (.l a) := arg0 hwf (List.mem_singleton_self _)
  clear hwf
  have la := wa.len
  refine ⟨by simp, ?_⟩
  rw [Try.results13]
  repeat' first
    | (refine And.intro ?_ ?_)
    | (intro h; cases h)
    | (intro h; rw [h])
    | (intro h)
  all_goals first
    | (show lowEdges _ = true; kernel_rfl) | (show logOk _ _ = true; kernel_rfl) | trivial | exact Or.inr rfl | exact Or.inl rfl
    | (refine resI ?_; have h := sub_no ‹_› hl0 hl1 la; have := szR_lt (l := l) (w := wRow (csD [.sl false 95 a])) (by rw [wRow_sl]; omega); exact this.symm)
    | skip
  obtain ⟨hb, he⟩ := sub_yes ‹_› hl0 hl1 la
  refine awp_loop (Q := _) [0, 1, 5] [] (fun n s => ∃ i : Int, s = ([argS 95 a, .val false [.i .i64 (l - a.length - wRows (a.take i.toNat))], .val false [.i .i64 i]], []) ∧ 0 ≤ i ∧ i ≤ a.length ∧ n = a.length - i.toNat ∧ 0 ≤ l - a.length - wRows (a.take i.toNat)) ?_ ?_
  · exact ⟨rfl, a.length - 0, 0, congrArg (fun z : Int => (([argS 95 a, .val false [.i .i64 z], .val false [.i .i64 0]], []) : Snap)) (by rw [he]; simp [wRows]), by omega, by omega, rfl, by simp [wRows]; omega⟩
  rintro n s ⟨i, rfl, h1, h2, h3, h4⟩
  repeat' first
    | (refine And.intro ?_ ?_)
    | (intro h; cases h)
    | (intro h; rw [h])
    | (intro h)
  all_goals first
    | (show lowEdges _ = true; kernel_rfl) | (show logOk _ _ = true; kernel_rfl) | trivial | exact Or.inr rfl | exact Or.inl rfl
    | omega
    | exact of_decide_eq_true ‹_›
    | (have hA := wRows_all h1 h2 ‹_›
       refine resI ?_
       have := szR_ge (l := l) (w := wRow (csD [.sl false 95 a])) (by rw [wRow_sl]; omega)
       rw [this, wRow_sl, hA]; omega)
    | skip
  all_goals
    have hi : i < (a.length : Int) := of_decide_eq_true ‹decide (i < (a.length : Int)) = true›
    have wr : WfRow T [.i .i64, .i .i64, .l 176] (a.getD i.toNat []) := wa.row rfl (by omega)
    have hnx := wRows_next h1 hi
    have hle := wRows_le a (i + 1).toNat
    have hrow : wRow (a.getD i.toNat []) = wRow (csD (rowC [.i .i64, .i .i64, .l 176] (a.getD i.toNat []))) := (wRow_rowC wr).symm
    first
      | exact ⟨_, _, wr, by omega, by omega, rfl⟩
      | exact ⟨_, _, wr, Nat.lt_of_lt_of_le (size_row (by omega)) (Nat.le_of_lt_succ hs), by omega, by omega, rfl⟩
      | (refine resI ?_
         have hw := szR_no (‹decide (szR (l - a.length - wRows (a.take i.toNat)) (wRow (csD (rowC [.i .i64, .i .i64, .l 176] (a.getD i.toNat [])))) < 0) = true›) h4
         have := szR_lt (l := l) (w := wRow (csD [.sl false 95 a])) (by rw [wRow_sl]; omega)
         exact this.symm)
      | (obtain ⟨hw, hv⟩ := szR_yes (‹decide (szR (l - a.length - wRows (a.take i.toNat)) (wRow (csD (rowC [.i .i64, .i .i64, .l 176] (a.getD i.toNat [])))) < 0) = false›)
         refine ⟨a.length - (i + 1).toNat, by omega, i + 1, ?_, by omega, by omega, rfl, by omega⟩
         have e2 : szR (l - a.length - wRows (a.take i.toNat)) (wRow (csD (rowC [.i .i64, .i .i64, .l 176] (a.getD i.toNat [])))) = l - a.length - wRows (a.take (i + 1).toNat) := hv.trans (by omega)
         have e3 := wrap_next h1 hi la
         exact (congrArg (fun z : Int => (([argS 95 a, .val false [.i .i64 (szR (l - a.length - wRows (a.take i.toNat)) (wRow (csD (rowC [.i .i64, .i .i64, .l 176] (a.getD i.toNat [])))))], .val false [.i .i64 z]], []) : Snap)) e3).trans (congrArg (fun z : Int => (([argS 95 a, .val false [.i .i64 z], .val false [.i .i64 (i + 1)]], []) : Snap)) e2))
/-- laws.szEntry -/
theorem ok95 : FOk Try.prog T 95 (szG [.i .i64, .i .i64, .i .i64, .l 3, .i .i64, .i .i64, .i .i64, .s, .l 142, .l 9, .l 218, .b]) := by
  refine fok (env := envL [(141, (szS 3)), (142, (szG [.i .i64, .i .i64, .i .i64, .s, .l 142, .l 9, .l 218]))]) (N := 18) tabT (envL_cons ok141 (envL_cons ok142 envL_nil)) mixed Try.func95 rfl Try.call95 Try.ntmps95 ?_
  rintro args ⟨a, l, wa, hl0, hl1, rfl⟩ hwf
  refine ⟨by simp, ?_⟩
  clear hwf
  have hs7 := wa.str (j := 7) rfl
  rw [Try.results95]
  repeat' first
    | (refine And.intro ?_ ?_)
    | (intro h; cases h)
    | (intro h; rw [h])
    | (intro h)
  all_goals first
    | (show lowEdges _ = true; kernel_rfl) | (show logOk _ _ = true; kernel_rfl) | trivial | exact Or.inr rfl | exact Or.inl rfl
    | exact ⟨_, _, by first | omega | (simp only [szR, wRow_sl, decide_eq_true_eq, decide_eq_false_iff_not, IntKind.wrap_i64, maxLen, Nat.reduceAdd] at *; omega), by first | omega | (simp only [szR, wRow_sl, decide_eq_true_eq, decide_eq_false_iff_not, IntKind.wrap_i64, maxLen, Nat.reduceAdd] at *; omega), rfl⟩
    | exact ⟨_, _, Nat.lt_of_lt_of_le (size_cell (by rw [wa.1]; decide)) (Nat.le_of_lt_succ hs), by first | omega | (simp only [szR, wRow_sl, decide_eq_true_eq, decide_eq_false_iff_not, IntKind.wrap_i64, maxLen, Nat.reduceAdd] at *; omega), by first | omega | (simp only [szR, wRow_sl, decide_eq_true_eq, decide_eq_false_iff_not, IntKind.wrap_i64, maxLen, Nat.reduceAdd] at *; omega), rfl⟩
    | exact ⟨sub a 0 1, _, wa.sub 0 1 (by decide), by first | omega | (simp only [szR, wRow_sl, decide_eq_true_eq, decide_eq_false_iff_not, IntKind.wrap_i64, maxLen, Nat.reduceAdd] at *; omega), by first | omega | (simp only [szR, wRow_sl, decide_eq_true_eq, decide_eq_false_iff_not, IntKind.wrap_i64, maxLen, Nat.reduceAdd] at *; omega), rfl⟩ | exact ⟨sub a 1 1, _, wa.sub 1 1 (by decide), by first | omega | (simp only [szR, wRow_sl, decide_eq_true_eq, decide_eq_false_iff_not, IntKind.wrap_i64, maxLen, Nat.reduceAdd] at *; omega), by first | omega | (simp only [szR, wRow_sl, decide_eq_true_eq, decide_eq_false_iff_not, IntKind.wrap_i64, maxLen, Nat.reduceAdd] at *; omega), rfl⟩ | exact ⟨sub a 2 1, _, wa.sub 2 1 (by decide), by first | omega | (simp only [szR, wRow_sl, decide_eq_true_eq, decide_eq_false_iff_not, IntKind.wrap_i64, maxLen, Nat.reduceAdd] at *; omega), by first | omega | (simp only [szR, wRow_sl, decide_eq_true_eq, decide_eq_false_iff_not, IntKind.wrap_i64, maxLen, Nat.reduceAdd] at *; omega), rfl⟩ | exact ⟨sub a 3 1, _, wa.sub 3 1 (by decide), by first | omega | (simp only [szR, wRow_sl, decide_eq_true_eq, decide_eq_false_iff_not, IntKind.wrap_i64, maxLen, Nat.reduceAdd] at *; omega), by first | omega | (simp only [szR, wRow_sl, decide_eq_true_eq, decide_eq_false_iff_not, IntKind.wrap_i64, maxLen, Nat.reduceAdd] at *; omega), rfl⟩ | exact ⟨sub a 4 7, _, wa.sub 4 7 (by decide), by first | omega | (simp only [szR, wRow_sl, decide_eq_true_eq, decide_eq_false_iff_not, IntKind.wrap_i64, maxLen, Nat.reduceAdd] at *; omega), by first | omega | (simp only [szR, wRow_sl, decide_eq_true_eq, decide_eq_false_iff_not, IntKind.wrap_i64, maxLen, Nat.reduceAdd] at *; omega), rfl⟩ | exact ⟨sub a 11 1, _, wa.sub 11 1 (by decide), by first | omega | (simp only [szR, wRow_sl, decide_eq_true_eq, decide_eq_false_iff_not, IntKind.wrap_i64, maxLen, Nat.reduceAdd] at *; omega), by first | omega | (simp only [szR, wRow_sl, decide_eq_true_eq, decide_eq_false_iff_not, IntKind.wrap_i64, maxLen, Nat.reduceAdd] at *; omega), rfl⟩
    | (refine resI ?_; simp only [csD, CV.d, rowC, ofD, argG, List.zipIdx, List.map, wRow, wD, sub, List.range, List.range.loop, Nat.reduceAdd]; simp only [csD, CV.d, rowC, ofD, argG, List.zipIdx, List.map, wRow, wD, sub, List.range, List.range.loop, Nat.reduceAdd, szR, wRow_sl, decide_eq_true_eq, decide_eq_false_iff_not, IntKind.wrap_i64, maxLen] at *; omega)
/-- laws.szEntryS -/
theorem ok48 : FOk Try.prog T 48 (szS 144) := by
  refine fok (env := envL [(95, (szG [.i .i64, .i .i64, .i .i64, .l 3, .i .i64, .i .i64, .i .i64, .s, .l 142, .l 9, .l 218, .b]))]) (N := 27) tabT (envL_cons ok95 envL_nil) mixed Try.func48 rfl Try.call48 Try.ntmps48 ?_
  rintro args ⟨a, l, hl0, hl1, rfl⟩ hwf
  have wa : WfD T (.l 144) (.l a) := arg0 hwf (List.mem_singleton_self _)
  clear hwf
  have la := wa.len
  refine ⟨by simp, ?_⟩
  rw [Try.results48]
  repeat' first
    | (refine And.intro ?_ ?_)
    | (intro h; cases h)
    | (intro h; rw [h])
    | (intro h)
  all_goals first
    | (show lowEdges _ = true; kernel_rfl) | (show logOk _ _ = true; kernel_rfl) | trivial | exact Or.inr rfl | exact Or.inl rfl
    | (refine resI ?_; have h := sub_no ‹_› hl0 hl1 la; have := szR_lt (l := l) (w := wRow (csD [.sl false 144 a])) (by rw [wRow_sl]; omega); exact this.symm)
    | skip
  obtain ⟨hb, he⟩ := sub_yes ‹_› hl0 hl1 la
  refine awp_loop (Q := _) [0, 1, 5] [] (fun n s => ∃ i : Int, s = ([argS 144 a, .val false [.i .i64 (l - a.length - wRows (a.take i.toNat))], .val false [.i .i64 i]], []) ∧ 0 ≤ i ∧ i ≤ a.length ∧ n = a.length - i.toNat ∧ 0 ≤ l - a.length - wRows (a.take i.toNat)) ?_ ?_
  · exact ⟨rfl, a.length - 0, 0, congrArg (fun z : Int => (([argS 144 a, .val false [.i .i64 z], .val false [.i .i64 0]], []) : Snap)) (by rw [he]; simp [wRows]), by omega, by omega, rfl, by simp [wRows]; omega⟩
  rintro n s ⟨i, rfl, h1, h2, h3, h4⟩
  repeat' first
    | (refine And.intro ?_ ?_)
    | (intro h; cases h)
    | (intro h; rw [h])
    | (intro h)
  all_goals first
    | (show lowEdges _ = true; kernel_rfl) | (show logOk _ _ = true; kernel_rfl) | trivial | exact Or.inr rfl | exact Or.inl rfl
    | omega
    | exact of_decide_eq_true ‹_›
    | (have hA := wRows_all h1 h2 ‹_›
       refine resI ?_
       have := szR_ge (l := l) (w := wRow (csD [.sl false 144 a])) (by rw [wRow_sl]; omega)
       rw [this, wRow_sl, hA]; omega)
    | skip
  all_goals
    have hi : i < (a.length : Int) := of_decide_eq_true ‹decide (i < (a.length : Int)) = true›
    have wr : WfRow T [.i .i64, .i .i64, .i .i64, .l 3, .i .i64, .i .i64, .i .i64, .s, .l 142, .l 9, .l 218, .b] (a.getD i.toNat []) := wa.row rfl (by omega)
    have hnx := wRows_next h1 hi
    have hle := wRows_le a (i + 1).toNat
    have hrow : wRow (a.getD i.toNat []) = wRow (csD (rowC [.i .i64, .i .i64, .i .i64, .l 3, .i .i64, .i .i64, .i .i64, .s, .l 142, .l 9, .l 218, .b] (a.getD i.toNat []))) := (wRow_rowC wr).symm
    first
      | exact ⟨_, _, wr, by omega, by omega, rfl⟩
      | exact ⟨_, _, wr, Nat.lt_of_lt_of_le (size_row (by omega)) (Nat.le_of_lt_succ hs), by omega, by omega, rfl⟩
      | (refine resI ?_
         have hw := szR_no (‹decide (szR (l - a.length - wRows (a.take i.toNat)) (wRow (csD (rowC [.i .i64, .i .i64, .i .i64, .l 3, .i .i64, .i .i64, .i .i64, .s, .l 142, .l 9, .l 218, .b] (a.getD i.toNat [])))) < 0) = true›) h4
         have := szR_lt (l := l) (w := wRow (csD [.sl false 144 a])) (by rw [wRow_sl]; omega)
         exact this.symm)
      | (obtain ⟨hw, hv⟩ := szR_yes (‹decide (szR (l - a.length - wRows (a.take i.toNat)) (wRow (csD (rowC [.i .i64, .i .i64, .i .i64, .l 3, .i .i64, .i .i64, .i .i64, .s, .l 142, .l 9, .l 218, .b] (a.getD i.toNat [])))) < 0) = false›)
         refine ⟨a.length - (i + 1).toNat, by omega, i + 1, ?_, by omega, by omega, rfl, by omega⟩
         have e2 : szR (l - a.length - wRows (a.take i.toNat)) (wRow (csD (rowC [.i .i64, .i .i64, .i .i64, .l 3, .i .i64, .i .i64, .i .i64, .s, .l 142, .l 9, .l 218, .b] (a.getD i.toNat [])))) = l - a.length - wRows (a.take (i + 1).toNat) := hv.trans (by omega)
         have e3 := wrap_next h1 hi la
         exact (congrArg (fun z : Int => (([argS 144 a, .val false [.i .i64 (szR (l - a.length - wRows (a.take i.toNat)) (wRow (csD (rowC [.i .i64, .i .i64, .i .i64, .l 3, .i .i64, .i .i64, .i .i64, .s, .l 142, .l 9, .l 218, .b] (a.getD i.toNat [])))))], .val false [.i .i64 z]], []) : Snap)) e3).trans (congrArg (fun z : Int => (([argS 144 a, .val false [.i .i64 z], .val false [.i .i64 (i + 1)]], []) : Snap)) e2))
/-- laws.szEngine -/
theorem ok18 : FOk Try.prog T 18 (szG [.l 181, .i .i64, .i .i64, .l 183, .l 95, .l 144, .i .i64, .i .i64, .i .i64]) := by
  refine fok (env := envL [(46, (szG [.l 181])), (47, (szG [.i .i64, .i .i64, .l 183])), (13, (szS 95)), (48, (szS 144))]) (N := 30) tabT (envL_cons ok46 (envL_cons ok47 (envL_cons ok13 (envL_cons ok48 envL_nil)))) mixed Try.func18 rfl Try.call18 Try.ntmps18 ?_
  rintro args ⟨a, l, wa, hl0, hl1, rfl⟩ hwf
  refine ⟨by simp, ?_⟩
  clear hwf
  rw [Try.results18]
  repeat' first
    | (refine And.intro ?_ ?_)
    | (intro h; cases h)
    | (intro h; rw [h])
    | (intro h)
  all_goals first
    | (show lowEdges _ = true; kernel_rfl) | (show logOk _ _ = true; kernel_rfl) | trivial | exact Or.inr rfl | exact Or.inl rfl
    | exact ⟨_, _, by first | omega | (simp only [szR, wRow_sl, decide_eq_true_eq, decide_eq_false_iff_not, IntKind.wrap_i64, maxLen, Nat.reduceAdd] at *; omega), by first | omega | (simp only [szR, wRow_sl, decide_eq_true_eq, decide_eq_false_iff_not, IntKind.wrap_i64, maxLen, Nat.reduceAdd] at *; omega), rfl⟩
    | exact ⟨_, _, Nat.lt_of_lt_of_le (size_cell (by rw [wa.1]; decide)) (Nat.le_of_lt_succ hs), by first | omega | (simp only [szR, wRow_sl, decide_eq_true_eq, decide_eq_false_iff_not, IntKind.wrap_i64, maxLen, Nat.reduceAdd] at *; omega), by first | omega | (simp only [szR, wRow_sl, decide_eq_true_eq, decide_eq_false_iff_not, IntKind.wrap_i64, maxLen, Nat.reduceAdd] at *; omega), rfl⟩
    | exact ⟨sub a 0 1, _, wa.sub 0 1 (by decide), by first | omega | (simp only [szR, wRow_sl, decide_eq_true_eq, decide_eq_false_iff_not, IntKind.wrap_i64, maxLen, Nat.reduceAdd] at *; omega), by first | omega | (simp only [szR, wRow_sl, decide_eq_true_eq, decide_eq_false_iff_not, IntKind.wrap_i64, maxLen, Nat.reduceAdd] at *; omega), rfl⟩ | exact ⟨sub a 1 3, _, wa.sub 1 3 (by decide), by first | omega | (simp only [szR, wRow_sl, decide_eq_true_eq, decide_eq_false_iff_not, IntKind.wrap_i64, maxLen, Nat.reduceAdd] at *; omega), by first | omega | (simp only [szR, wRow_sl, decide_eq_true_eq, decide_eq_false_iff_not, IntKind.wrap_i64, maxLen, Nat.reduceAdd] at *; omega), rfl⟩ | exact ⟨sub a 4 1, _, wa.sub 4 1 (by decide), by first | omega | (simp only [szR, wRow_sl, decide_eq_true_eq, decide_eq_false_iff_not, IntKind.wrap_i64, maxLen, Nat.reduceAdd] at *; omega), by first | omega | (simp only [szR, wRow_sl, decide_eq_true_eq, decide_eq_false_iff_not, IntKind.wrap_i64, maxLen, Nat.reduceAdd] at *; omega), rfl⟩ | exact ⟨sub a 5 1, _, wa.sub 5 1 (by decide), by first | omega | (simp only [szR, wRow_sl, decide_eq_true_eq, decide_eq_false_iff_not, IntKind.wrap_i64, maxLen, Nat.reduceAdd] at *; omega), by first | omega | (simp only [szR, wRow_sl, decide_eq_true_eq, decide_eq_false_iff_not, IntKind.wrap_i64, maxLen, Nat.reduceAdd] at *; omega), rfl⟩ | exact ⟨sub a 6 1, _, wa.sub 6 1 (by decide), by first | omega | (simp only [szR, wRow_sl, decide_eq_true_eq, decide_eq_false_iff_not, IntKind.wrap_i64, maxLen, Nat.reduceAdd] at *; omega), by first | omega | (simp only [szR, wRow_sl, decide_eq_true_eq, decide_eq_false_iff_not, IntKind.wrap_i64, maxLen, Nat.reduceAdd] at *; omega), rfl⟩ | exact ⟨sub a 7 1, _, wa.sub 7 1 (by decide), by first | omega | (simp only [szR, wRow_sl, decide_eq_true_eq, decide_eq_false_iff_not, IntKind.wrap_i64, maxLen, Nat.reduceAdd] at *; omega), by first | omega | (simp only [szR, wRow_sl, decide_eq_true_eq, decide_eq_false_iff_not, IntKind.wrap_i64, maxLen, Nat.reduceAdd] at *; omega), rfl⟩ | exact ⟨sub a 8 1, _, wa.sub 8 1 (by decide), by first | omega | (simp only [szR, wRow_sl, decide_eq_true_eq, decide_eq_false_iff_not, IntKind.wrap_i64, maxLen, Nat.reduceAdd] at *; omega), by first | omega | (simp only [szR, wRow_sl, decide_eq_true_eq, decide_eq_false_iff_not, IntKind.wrap_i64, maxLen, Nat.reduceAdd] at *; omega), rfl⟩
    | (refine resI ?_; simp only [csD, CV.d, rowC, ofD, argG, List.zipIdx, List.map, wRow, wD, sub, List.range, List.range.loop, Nat.reduceAdd]; simp only [csD, CV.d, rowC, ofD, argG, List.zipIdx, List.map, wRow, wD, sub, List.range, List.range.loop, Nat.reduceAdd, szR, wRow_sl, decide_eq_true_eq, decide_eq_false_iff_not, IntKind.wrap_i64, maxLen] at *; omega)
end Go.Proofs.Ytijnlnmoellbaaa.Ab
