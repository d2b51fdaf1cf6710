/- Measures: printed by a program of this claim. -/
import Derived.Test.YtaecbmjmcpdgdaaGreatCEd
namespace Go.Proofs.YtaecbmjmcpdgdaaGreat.Ab
open Go.RowKit
set_option linter.unusedVariables false
set_option linter.unusedSimpArgs false
set_option maxRecDepth 100000
set_option maxHeartbeats 1000000
theorem ok61 : FOk Tryz.prog T 61 (szS 3) := by
  refine fok (env := envL []) (N := 12) tabT envL_nil mixed Tryz.func61 rfl Tryz.call61 Tryz.ntmps61 ?_
  rintro args ⟨a, l, hl0, hl1, rfl⟩ hwf
  have wa : WfD T (.l 3) (.l a) := arg0 hwf (List.mem_singleton_self _)
  clear hwf
  have la := wa.len
  refine ⟨by simp, ?_⟩
  rw [Tryz.results61]
  repeat' first
    | (refine And.intro ?_ ?_)
    | (intro h; cases h)
    | (intro h; rw [h])
    | (intro h)
  all_goals first
    | (show lowEdges _ = true; kernel_rfl) | (show logOk _ _ = true; kernel_rfl) | exact True.intro | exact rfl | exact Or.inr rfl | exact Or.inl rfl
    | (refine resI ?_; have h := sub_no ‹_› hl0 hl1 la; have := szR_lt (l := l) (w := wRow (csD [.sl false 3 a])) (by rw [wRow_sl]; omega); exact this.symm)
    | skip
  have hz : wRows a = 0 := wRows_zero (cts := [.i .i64]) (fun k hk => wa.row rfl hk) (fun r hr => by
    rw [← wRow_rowC hr]
    simp [csD, CV.d, rowC, ofD, argG, List.zipIdx, List.map, wRow, wD, sub, List.range, List.range.loop, Nat.reduceAdd])
  obtain ⟨hb, he⟩ := sub_yes ‹_› hl0 hl1 la
  refine resI (he.trans ?_)
  rw [szR_ge (by rw [wRow_sl, hz]; omega), wRow_sl, hz]
  simp
theorem ok85 : FOk Tryz.prog T 85 (szG [.i .i64, .i .i64, .i .i64, .s, .s, .i .i64]) := by
  refine fok (env := envL []) (N := 20) tabT envL_nil mixed Tryz.func85 rfl Tryz.call85 Tryz.ntmps85 ?_
  rintro args ⟨a, l, wa, hl0, hl1, rfl⟩ hwf
  refine ⟨by simp, ?_⟩
  clear hwf
  have hs3 := wa.str (j := 3) rfl
  have hs4 := wa.str (j := 4) rfl
  rw [Tryz.results85]
  repeat' first
    | (refine And.intro ?_ ?_)
    | (intro h; have h2 := szR_no h (by omega); clear h)
    | (intro h; obtain ⟨hw, he⟩ := szR_yes h; (try rw [he]); clear h he)
    | (intro h; have h2 := sub_no h (by omega) (by omega) (by first | exact hs3 | exact hs4); clear h)
    | (intro h; obtain ⟨hw, he⟩ := sub_yes h (by omega) (by omega) (by first | exact hs3 | exact hs4); (try rw [he]); clear h he)
    | (intro h; cases h)
    | (intro h; rw [h])
    | (intro h)
  all_goals first
    | exact Or.inr rfl
    | exact Or.inl rfl
    | exact ⟨_, _, by omega, by omega, rfl⟩
    | exact ⟨_, _, Nat.lt_of_lt_of_le (size_cell (by rw [wa.1]; decide)) (Nat.le_of_lt_succ hs), by omega, by omega, rfl⟩
    | exact ⟨sub a 0 1, _, wa.sub 0 1 (by decide), by omega, by omega, rfl⟩
    | exact ⟨sub a 1 1, _, wa.sub 1 1 (by decide), by omega, by omega, rfl⟩
    | exact ⟨sub a 2 1, _, wa.sub 2 1 (by decide), by omega, by omega, rfl⟩
    | exact ⟨sub a 3 1, _, wa.sub 3 1 (by decide), by omega, by omega, rfl⟩
    | exact ⟨sub a 4 1, _, wa.sub 4 1 (by decide), by omega, by omega, rfl⟩
    | exact ⟨sub a 5 1, _, wa.sub 5 1 (by decide), by omega, by omega, rfl⟩
    | (refine resI ?_; clear wa hs3 hs4; rw [szR_lt]; simp only [csD, CV.d, rowC, ofD, argG, List.zipIdx, List.map, wRow, wD, sub, List.range, List.range.loop, wRow_sl, Nat.reduceAdd, Nat.add_zero, Nat.zero_add] at *; omega)
    | (refine resI ?_; clear wa hs3 hs4; rw [szR_ge] <;> (simp only [csD, CV.d, rowC, ofD, argG, List.zipIdx, List.map, wRow, wD, sub, List.range, List.range.loop, wRow_sl, Nat.reduceAdd, Nat.add_zero, Nat.zero_add] at *; omega))
    | (refine resI ?_; clear wa hs3 hs4; simp only [csD, CV.d, rowC, ofD, argG, List.zipIdx, List.map, wRow, wD, sub, List.range, List.range.loop, wRow_sl, Nat.reduceAdd, Nat.add_zero, Nat.zero_add] at *; simp only [szR]; omega)
    | (show lowEdges _ = true; kernel_rfl) | (show logOk _ _ = true; kernel_rfl) | exact True.intro | exact rfl | exact Or.inr rfl | exact Or.inl rfl
theorem ok62 : FOk Tryz.prog T 62 (szG [.i .i64, .i .i64, .i .i64, .i .i64, .i .i64, .s, .s, .i .i64]) := by
  refine fok (env := envL [(85, (szG [.i .i64, .i .i64, .i .i64, .s, .s, .i .i64]))]) (N := 12) tabT (envL_cons ok85 envL_nil) mixed Tryz.func62 rfl Tryz.call62 Tryz.ntmps62 ?_
  rintro args ⟨a, l, wa, hl0, hl1, rfl⟩ hwf
  refine ⟨by simp, ?_⟩
  clear hwf
  have hs5 := wa.str (j := 5) rfl
  have hs6 := wa.str (j := 6) rfl
  rw [Tryz.results62]
  repeat' first
    | (refine And.intro ?_ ?_)
    | (intro h; have h2 := szR_no h (by omega); clear h)
    | (intro h; obtain ⟨hw, he⟩ := szR_yes h; (try rw [he]); clear h he)
    | (intro h; have h2 := sub_no h (by omega) (by omega) (by first | exact hs5 | exact hs6); clear h)
    | (intro h; obtain ⟨hw, he⟩ := sub_yes h (by omega) (by omega) (by first | exact hs5 | exact hs6); (try rw [he]); clear h he)
    | (intro h; cases h)
    | (intro h; rw [h])
    | (intro h)
  all_goals first
    | exact Or.inr rfl
    | exact Or.inl rfl
    | exact ⟨_, _, by omega, by omega, rfl⟩
    | exact ⟨_, _, Nat.lt_of_lt_of_le (size_cell (by rw [wa.1]; decide)) (Nat.le_of_lt_succ hs), by omega, by omega, rfl⟩
    | exact ⟨sub a 0 1, _, wa.sub 0 1 (by decide), by omega, by omega, rfl⟩
    | exact ⟨sub a 1 1, _, wa.sub 1 1 (by decide), by omega, by omega, rfl⟩
    | exact ⟨sub a 2 6, _, wa.sub 2 6 (by decide), by omega, by omega, rfl⟩
    | (refine resI ?_; clear wa hs5 hs6; rw [szR_lt]; simp only [csD, CV.d, rowC, ofD, argG, List.zipIdx, List.map, wRow, wD, sub, List.range, List.range.loop, wRow_sl, Nat.reduceAdd, Nat.add_zero, Nat.zero_add] at *; omega)
    | (refine resI ?_; clear wa hs5 hs6; rw [szR_ge] <;> (simp only [csD, CV.d, rowC, ofD, argG, List.zipIdx, List.map, wRow, wD, sub, List.range, List.range.loop, wRow_sl, Nat.reduceAdd, Nat.add_zero, Nat.zero_add] at *; omega))
    | (refine resI ?_; clear wa hs5 hs6; simp only [csD, CV.d, rowC, ofD, argG, List.zipIdx, List.map, wRow, wD, sub, List.range, List.range.loop, wRow_sl, Nat.reduceAdd, Nat.add_zero, Nat.zero_add] at *; simp only [szR]; omega)
    | (show lowEdges _ = true; kernel_rfl) | (show logOk _ _ = true; kernel_rfl) | exact True.intro | exact rfl | exact Or.inr rfl | exact Or.inl rfl
theorem ok101 : FOk Tryz.prog T 101 (szS 9) := by
  refine fok (env := envL []) (N := 28) tabT envL_nil mixed Tryz.func101 rfl Tryz.call101 Tryz.ntmps101 ?_
  rintro args ⟨a, l, hl0, hl1, rfl⟩ hwf
  have wa : WfD T (.l 9) (.l a) := arg0 hwf (List.mem_singleton_self _)
  clear hwf
  have la := wa.len
  refine ⟨by simp, ?_⟩
  rw [Tryz.results101]
  repeat' first
    | (refine And.intro ?_ ?_)
    | (intro h; cases h)
    | (intro h; rw [h])
    | (intro h)
  all_goals first
    | (show lowEdges _ = true; kernel_rfl) | (show logOk _ _ = true; kernel_rfl) | exact True.intro | exact rfl | exact Or.inr rfl | exact Or.inl rfl
    | (refine resI ?_; have h := sub_no ‹_› hl0 hl1 la; have := szR_lt (l := l) (w := wRow (csD [.sl false 9 a])) (by rw [wRow_sl]; omega); exact this.symm)
    | skip
  obtain ⟨hb, he⟩ := sub_yes ‹_› hl0 hl1 la
  refine awp_loop (Q := _) [0, 1, 5] [] (fun n s => ∃ i : Int, s = ([argS 9 a, .val false [.i .i64 (l - a.length - wRows (a.take i.toNat))], .val false [.i .i64 i]], []) ∧ 0 ≤ i ∧ i ≤ a.length ∧ n = a.length - i.toNat ∧ 0 ≤ l - a.length - wRows (a.take i.toNat)) ?_ ?_
  · exact ⟨rfl, a.length - 0, 0, congrArg (fun z : Int => (([argS 9 a, .val false [.i .i64 z], .val false [.i .i64 0]], []) : Snap)) (by rw [he]; simp [wRows]), by omega, by omega, rfl, by simp [wRows]; omega⟩
  rintro n s ⟨i, rfl, h1, h2, h3, h4⟩
  repeat' first
    | (refine And.intro ?_ ?_)
    | (intro h; cases h)
    | (intro h; rw [h])
    | (intro h)
  all_goals first
    | (show lowEdges _ = true; kernel_rfl) | (show logOk _ _ = true; kernel_rfl) | exact True.intro | exact rfl | exact Or.inr rfl | exact Or.inl rfl
    | omega
    | exact of_decide_eq_true ‹_›
    | (have hA := wRows_all h1 h2 ‹_›
       refine resI ?_
       have := szR_ge (l := l) (w := wRow (csD [.sl false 9 a])) (by rw [wRow_sl]; omega)
       rw [this, wRow_sl, hA]; omega)
    | skip
  all_goals
    have hi : i < (a.length : Int) := of_decide_eq_true ‹decide (i < (a.length : Int)) = true›
    have wr : WfRow T [.s] (a.getD i.toNat []) := wa.row rfl (by omega)
    have hnx := wRows_next h1 hi
    have hle := wRows_le a (i + 1).toNat
    have hstr := wr.str (j := 0) rfl
    have hrow : wRow (a.getD i.toNat []) = ((a.getD i.toNat []).getD 0 default).str.size := by
      rw [← wRow_rowC wr]
      simp [csD, CV.d, rowC, ofD, argG, List.zipIdx, List.map, wRow, wD, sub, List.range, List.range.loop, Nat.reduceAdd]
    first
      | exact ⟨_, _, wr, by omega, by omega, rfl⟩
      | exact ⟨_, _, wr, Nat.lt_of_lt_of_le (size_row (by omega)) (Nat.le_of_lt_succ hs), by omega, by omega, rfl⟩
      | (refine resI ?_
         have hw := sub_no (‹decide (IntKind.i64.wrap ((l - a.length - wRows (a.take i.toNat)) - ((a.getD i.toNat []).getD 0 default).str.size) < 0) = true›) h4 (by omega) hstr
         have := szR_lt (l := l) (w := wRow (csD [.sl false 9 a])) (by rw [wRow_sl]; omega)
         exact this.symm)
      | (obtain ⟨hw, hv⟩ := sub_yes (‹decide (IntKind.i64.wrap ((l - a.length - wRows (a.take i.toNat)) - ((a.getD i.toNat []).getD 0 default).str.size) < 0) = false›) h4 (by omega) hstr
         refine ⟨a.length - (i + 1).toNat, by omega, i + 1, ?_, by omega, by omega, rfl, by omega⟩
         have e2 : IntKind.i64.wrap ((l - a.length - wRows (a.take i.toNat)) - ((a.getD i.toNat []).getD 0 default).str.size) = l - a.length - wRows (a.take (i + 1).toNat) := hv.trans (by omega)
         have e3 := wrap_next h1 hi la
         exact (congrArg (fun z : Int => (([argS 9 a, .val false [.i .i64 (IntKind.i64.wrap ((l - a.length - wRows (a.take i.toNat)) - ((a.getD i.toNat []).getD 0 default).str.size))], .val false [.i .i64 z]], []) : Snap)) e3).trans (congrArg (fun z : Int => (([argS 9 a, .val false [.i .i64 z], .val false [.i .i64 (i + 1)]], []) : Snap)) e2))
theorem ok112 : FOk Tryz.prog T 112 (szS 155) := by
  refine fok (env := envL []) (N := 12) tabT envL_nil mixed Tryz.func112 rfl Tryz.call112 Tryz.ntmps112 ?_
  rintro args ⟨a, l, hl0, hl1, rfl⟩ hwf
  have wa : WfD T (.l 155) (.l a) := arg0 hwf (List.mem_singleton_self _)
  clear hwf
  have la := wa.len
  refine ⟨by simp, ?_⟩
  rw [Tryz.results112]
  repeat' first
    | (refine And.intro ?_ ?_)
    | (intro h; cases h)
    | (intro h; rw [h])
    | (intro h)
  all_goals first
    | (show lowEdges _ = true; kernel_rfl) | (show logOk _ _ = true; kernel_rfl) | exact True.intro | exact rfl | exact Or.inr rfl | exact Or.inl rfl
    | (refine resI ?_; have h := sub_no ‹_› hl0 hl1 la; have := szR_lt (l := l) (w := wRow (csD [.sl false 155 a])) (by rw [wRow_sl]; omega); exact this.symm)
    | skip
  have hz : wRows a = 0 := wRows_zero (cts := [.i .i64, .i .i64]) (fun k hk => wa.row rfl hk) (fun r hr => by
    rw [← wRow_rowC hr]
    simp [csD, CV.d, rowC, ofD, argG, List.zipIdx, List.map, wRow, wD, sub, List.range, List.range.loop, Nat.reduceAdd])
  obtain ⟨hb, he⟩ := sub_yes ‹_› hl0 hl1 la
  refine resI (he.trans ?_)
  rw [szR_ge (by rw [wRow_sl, hz]; omega), wRow_sl, hz]
  simp
theorem ok109 : FOk Tryz.prog T 109 (szG [.l 3, .l 155]) := by
  refine fok (env := envL [(61, (szS 3)), (112, (szS 155))]) (N := 18) tabT (envL_cons ok61 (envL_cons ok112 envL_nil)) mixed Tryz.func109 rfl Tryz.call109 Tryz.ntmps109 ?_
  rintro args ⟨a, l, wa, hl0, hl1, rfl⟩ hwf
  refine ⟨by simp, ?_⟩
  clear hwf
  rw [Tryz.results109]
  repeat' first
    | (refine And.intro ?_ ?_)
    | (intro h; have h2 := szR_no h (by omega); clear h)
    | (intro h; obtain ⟨hw, he⟩ := szR_yes h; (try rw [he]); clear h he)
    | (intro h; cases h)
    | (intro h; rw [h])
    | (intro h)
  all_goals first
    | exact Or.inr rfl
    | exact Or.inl rfl
    | exact ⟨_, _, by omega, by omega, rfl⟩
    | exact ⟨_, _, Nat.lt_of_lt_of_le (size_cell (by rw [wa.1]; decide)) (Nat.le_of_lt_succ hs), by omega, by omega, rfl⟩
    | exact ⟨sub a 0 1, _, wa.sub 0 1 (by decide), by omega, by omega, rfl⟩
    | exact ⟨sub a 1 1, _, wa.sub 1 1 (by decide), by omega, by omega, rfl⟩
    | (refine resI ?_; clear wa; rw [szR_lt]; simp only [csD, CV.d, rowC, ofD, argG, List.zipIdx, List.map, wRow, wD, sub, List.range, List.range.loop, wRow_sl, Nat.reduceAdd, Nat.add_zero, Nat.zero_add] at *; omega)
    | (refine resI ?_; clear wa; rw [szR_ge] <;> (simp only [csD, CV.d, rowC, ofD, argG, List.zipIdx, List.map, wRow, wD, sub, List.range, List.range.loop, wRow_sl, Nat.reduceAdd, Nat.add_zero, Nat.zero_add] at *; omega))
    | (refine resI ?_; clear wa; simp only [csD, CV.d, rowC, ofD, argG, List.zipIdx, List.map, wRow, wD, sub, List.range, List.range.loop, wRow_sl, Nat.reduceAdd, Nat.add_zero, Nat.zero_add] at *; simp only [szR]; omega)
    | (show lowEdges _ = true; kernel_rfl) | (show logOk _ _ = true; kernel_rfl) | exact True.intro | exact rfl | exact Or.inr rfl | exact Or.inl rfl
theorem ok102 : FOk Tryz.prog T 102 (szS 148) := by
  refine fok (env := envL [(109, (szG [.l 3, .l 155]))]) (N := 27) tabT (envL_cons ok109 envL_nil) mixed Tryz.func102 rfl Tryz.call102 Tryz.ntmps102 ?_
  rintro args ⟨a, l, hl0, hl1, rfl⟩ hwf
  have wa : WfD T (.l 148) (.l a) := arg0 hwf (List.mem_singleton_self _)
  clear hwf
  have la := wa.len
  refine ⟨by simp, ?_⟩
  rw [Tryz.results102]
  repeat' first
    | (refine And.intro ?_ ?_)
    | (intro h; cases h)
    | (intro h; rw [h])
    | (intro h)
  all_goals first
    | (show lowEdges _ = true; kernel_rfl) | (show logOk _ _ = true; kernel_rfl) | exact True.intro | exact rfl | exact Or.inr rfl | exact Or.inl rfl
    | (refine resI ?_; have h := sub_no ‹_› hl0 hl1 la; have := szR_lt (l := l) (w := wRow (csD [.sl false 148 a])) (by rw [wRow_sl]; omega); exact this.symm)
    | skip
  obtain ⟨hb, he⟩ := sub_yes ‹_› hl0 hl1 la
  refine awp_loop (Q := _) [0, 1, 5] [] (fun n s => ∃ i : Int, s = ([argS 148 a, .val false [.i .i64 (l - a.length - wRows (a.take i.toNat))], .val false [.i .i64 i]], []) ∧ 0 ≤ i ∧ i ≤ a.length ∧ n = a.length - i.toNat ∧ 0 ≤ l - a.length - wRows (a.take i.toNat)) ?_ ?_
  · exact ⟨rfl, a.length - 0, 0, congrArg (fun z : Int => (([argS 148 a, .val false [.i .i64 z], .val false [.i .i64 0]], []) : Snap)) (by rw [he]; simp [wRows]), by omega, by omega, rfl, by simp [wRows]; omega⟩
  rintro n s ⟨i, rfl, h1, h2, h3, h4⟩
  repeat' first
    | (refine And.intro ?_ ?_)
    | (intro h; cases h)
    | (intro h; rw [h])
    | (intro h)
  all_goals first
    | (show lowEdges _ = true; kernel_rfl) | (show logOk _ _ = true; kernel_rfl) | exact True.intro | exact rfl | exact Or.inr rfl | exact Or.inl rfl
    | omega
    | exact of_decide_eq_true ‹_›
    | (have hA := wRows_all h1 h2 ‹_›
       refine resI ?_
       have := szR_ge (l := l) (w := wRow (csD [.sl false 148 a])) (by rw [wRow_sl]; omega)
       rw [this, wRow_sl, hA]; omega)
    | skip
  all_goals
    have hi : i < (a.length : Int) := of_decide_eq_true ‹decide (i < (a.length : Int)) = true›
    have wr : WfRow T [.l 3, .l 155] (a.getD i.toNat []) := wa.row rfl (by omega)
    have hnx := wRows_next h1 hi
    have hle := wRows_le a (i + 1).toNat
    have hrow : wRow (a.getD i.toNat []) = wRow (csD (rowC [.l 3, .l 155] (a.getD i.toNat []))) := (wRow_rowC wr).symm
    first
      | exact ⟨_, _, wr, by omega, by omega, rfl⟩
      | exact ⟨_, _, wr, Nat.lt_of_lt_of_le (size_row (by omega)) (Nat.le_of_lt_succ hs), by omega, by omega, rfl⟩
      | (refine resI ?_
         have hw := szR_no (‹decide (szR (l - a.length - wRows (a.take i.toNat)) (wRow (csD (rowC [.l 3, .l 155] (a.getD i.toNat [])))) < 0) = true›) h4
         have := szR_lt (l := l) (w := wRow (csD [.sl false 148 a])) (by rw [wRow_sl]; omega)
         exact this.symm)
      | (obtain ⟨hw, hv⟩ := szR_yes (‹decide (szR (l - a.length - wRows (a.take i.toNat)) (wRow (csD (rowC [.l 3, .l 155] (a.getD i.toNat [])))) < 0) = false›)
         refine ⟨a.length - (i + 1).toNat, by omega, i + 1, ?_, by omega, by omega, rfl, by omega⟩
         have e2 : szR (l - a.length - wRows (a.take i.toNat)) (wRow (csD (rowC [.l 3, .l 155] (a.getD i.toNat [])))) = l - a.length - wRows (a.take (i + 1).toNat) := hv.trans (by omega)
         have e3 := wrap_next h1 hi la
         exact (congrArg (fun z : Int => (([argS 148 a, .val false [.i .i64 (szR (l - a.length - wRows (a.take i.toNat)) (wRow (csD (rowC [.l 3, .l 155] (a.getD i.toNat [])))))], .val false [.i .i64 z]], []) : Snap)) e3).trans (congrArg (fun z : Int => (([argS 148 a, .val false [.i .i64 z], .val false [.i .i64 (i + 1)]], []) : Snap)) e2))
theorem step95 (n : Nat) (hn : FOk Tryz.prog T 100 (szSn 122 n)) : FOk Tryz.prog T 95 (szGn [.i .i64, .i .i64, .i .i64, .s, .l 122, .l 9, .l 148] (n + 1)) := by
  refine fok (env := envL [(100, (szSn 122 n)), (101, (szS 9)), (102, (szS 148))]) (N := 31) tabT (envL_cons hn (envL_cons ok101 (envL_cons ok102 envL_nil))) mixed Tryz.func95 rfl Tryz.call95 Tryz.ntmps95 ?_
  rintro args ⟨a, l, wa, hs, hl0, hl1, rfl⟩ hwf
  refine ⟨by simp, ?_⟩
  clear hwf
  have hs3 := wa.str (j := 3) rfl
  rw [Tryz.results95]
  repeat' first
    | (refine And.intro ?_ ?_)
    | (intro h; have h2 := szR_no h (by omega); clear h)
    | (intro h; obtain ⟨hw, he⟩ := szR_yes h; (try rw [he]); clear h he)
    | (intro h; have h2 := sub_no h (by omega) (by omega) (by first | exact hs3); clear h)
    | (intro h; obtain ⟨hw, he⟩ := sub_yes h (by omega) (by omega) (by first | exact hs3); (try rw [he]); clear h he)
    | (intro h; cases h)
    | (intro h; rw [h])
    | (intro h)
  all_goals first
    | exact Or.inr rfl
    | exact Or.inl rfl
    | exact ⟨_, _, by omega, by omega, rfl⟩
    | exact ⟨_, _, Nat.lt_of_lt_of_le (size_cell (by rw [wa.1]; decide)) (Nat.le_of_lt_succ hs), by omega, by omega, rfl⟩
    | exact ⟨sub a 0 1, _, wa.sub 0 1 (by decide), by omega, by omega, rfl⟩
    | exact ⟨sub a 1 1, _, wa.sub 1 1 (by decide), by omega, by omega, rfl⟩
    | exact ⟨sub a 2 1, _, wa.sub 2 1 (by decide), by omega, by omega, rfl⟩
    | exact ⟨sub a 3 1, _, wa.sub 3 1 (by decide), by omega, by omega, rfl⟩
    | exact ⟨sub a 4 1, _, wa.sub 4 1 (by decide), by omega, by omega, rfl⟩
    | exact ⟨sub a 5 1, _, wa.sub 5 1 (by decide), by omega, by omega, rfl⟩
    | exact ⟨sub a 6 1, _, wa.sub 6 1 (by decide), by omega, by omega, rfl⟩
    | (refine resI ?_; clear wa hs3; rw [szR_lt]; simp only [csD, CV.d, rowC, ofD, argG, List.zipIdx, List.map, wRow, wD, sub, List.range, List.range.loop, wRow_sl, Nat.reduceAdd, Nat.add_zero, Nat.zero_add] at *; omega)
    | (refine resI ?_; clear wa hs3; rw [szR_ge] <;> (simp only [csD, CV.d, rowC, ofD, argG, List.zipIdx, List.map, wRow, wD, sub, List.range, List.range.loop, wRow_sl, Nat.reduceAdd, Nat.add_zero, Nat.zero_add] at *; omega))
    | (refine resI ?_; clear wa hs3; simp only [csD, CV.d, rowC, ofD, argG, List.zipIdx, List.map, wRow, wD, sub, List.range, List.range.loop, wRow_sl, Nat.reduceAdd, Nat.add_zero, Nat.zero_add] at *; simp only [szR]; omega)
    | (show lowEdges _ = true; kernel_rfl) | (show logOk _ _ = true; kernel_rfl) | exact True.intro | exact rfl | exact Or.inr rfl | exact Or.inl rfl
theorem step100 (n : Nat) (hn : FOk Tryz.prog T 95 (szGn [.i .i64, .i .i64, .i .i64, .s, .l 122, .l 9, .l 148] n)) : FOk Tryz.prog T 100 (szSn 122 (n + 1)) := by
  refine fok (env := envL [(95, (szGn [.i .i64, .i .i64, .i .i64, .s, .l 122, .l 9, .l 148] n))]) (N := 27) tabT (envL_cons hn envL_nil) mixed Tryz.func100 rfl Tryz.call100 Tryz.ntmps100 ?_
  rintro args ⟨a, l, hs, hl0, hl1, rfl⟩ hwf
  have wa : WfD T (.l 122) (.l a) := arg0 hwf (List.mem_singleton_self _)
  clear hwf
  have la := wa.len
  refine ⟨by simp, ?_⟩
  rw [Tryz.results100]
  repeat' first
    | (refine And.intro ?_ ?_)
    | (intro h; cases h)
    | (intro h; rw [h])
    | (intro h)
  all_goals first
    | (show lowEdges _ = true; kernel_rfl) | (show logOk _ _ = true; kernel_rfl) | exact True.intro | exact rfl | exact Or.inr rfl | exact Or.inl rfl
    | (refine resI ?_; have h := sub_no ‹_› hl0 hl1 la; have := szR_lt (l := l) (w := wRow (csD [.sl false 122 a])) (by rw [wRow_sl]; omega); exact this.symm)
    | skip
  obtain ⟨hb, he⟩ := sub_yes ‹_› hl0 hl1 la
  refine awp_loop (Q := _) [0, 1, 5] [] (fun n s => ∃ i : Int, s = ([argS 122 a, .val false [.i .i64 (l - a.length - wRows (a.take i.toNat))], .val false [.i .i64 i]], []) ∧ 0 ≤ i ∧ i ≤ a.length ∧ n = a.length - i.toNat ∧ 0 ≤ l - a.length - wRows (a.take i.toNat)) ?_ ?_
  · exact ⟨rfl, a.length - 0, 0, congrArg (fun z : Int => (([argS 122 a, .val false [.i .i64 z], .val false [.i .i64 0]], []) : Snap)) (by rw [he]; simp [wRows]), by omega, by omega, rfl, by simp [wRows]; omega⟩
  rintro n s ⟨i, rfl, h1, h2, h3, h4⟩
  repeat' first
    | (refine And.intro ?_ ?_)
    | (intro h; cases h)
    | (intro h; rw [h])
    | (intro h)
  all_goals first
    | (show lowEdges _ = true; kernel_rfl) | (show logOk _ _ = true; kernel_rfl) | exact True.intro | exact rfl | exact Or.inr rfl | exact Or.inl rfl
    | omega
    | exact of_decide_eq_true ‹_›
    | (have hA := wRows_all h1 h2 ‹_›
       refine resI ?_
       have := szR_ge (l := l) (w := wRow (csD [.sl false 122 a])) (by rw [wRow_sl]; omega)
       rw [this, wRow_sl, hA]; omega)
    | skip
  all_goals
    have hi : i < (a.length : Int) := of_decide_eq_true ‹decide (i < (a.length : Int)) = true›
    have wr : WfRow T [.i .i64, .i .i64, .i .i64, .s, .l 122, .l 9, .l 148] (a.getD i.toNat []) := wa.row rfl (by omega)
    have hnx := wRows_next h1 hi
    have hle := wRows_le a (i + 1).toNat
    have hrow : wRow (a.getD i.toNat []) = wRow (csD (rowC [.i .i64, .i .i64, .i .i64, .s, .l 122, .l 9, .l 148] (a.getD i.toNat []))) := (wRow_rowC wr).symm
    first
      | exact ⟨_, _, wr, by omega, by omega, rfl⟩
      | exact ⟨_, _, wr, Nat.lt_of_lt_of_le (size_row (by omega)) (Nat.le_of_lt_succ hs), by omega, by omega, rfl⟩
      | (refine resI ?_
         have hw := szR_no (‹decide (szR (l - a.length - wRows (a.take i.toNat)) (wRow (csD (rowC [.i .i64, .i .i64, .i .i64, .s, .l 122, .l 9, .l 148] (a.getD i.toNat [])))) < 0) = true›) h4
         have := szR_lt (l := l) (w := wRow (csD [.sl false 122 a])) (by rw [wRow_sl]; omega)
         exact this.symm)
      | (obtain ⟨hw, hv⟩ := szR_yes (‹decide (szR (l - a.length - wRows (a.take i.toNat)) (wRow (csD (rowC [.i .i64, .i .i64, .i .i64, .s, .l 122, .l 9, .l 148] (a.getD i.toNat [])))) < 0) = false›)
         refine ⟨a.length - (i + 1).toNat, by omega, i + 1, ?_, by omega, by omega, rfl, by omega⟩
         have e2 : szR (l - a.length - wRows (a.take i.toNat)) (wRow (csD (rowC [.i .i64, .i .i64, .i .i64, .s, .l 122, .l 9, .l 148] (a.getD i.toNat [])))) = l - a.length - wRows (a.take (i + 1).toNat) := hv.trans (by omega)
         have e3 := wrap_next h1 hi la
         exact (congrArg (fun z : Int => (([argS 122 a, .val false [.i .i64 (szR (l - a.length - wRows (a.take i.toNat)) (wRow (csD (rowC [.i .i64, .i .i64, .i .i64, .s, .l 122, .l 9, .l 148] (a.getD i.toNat [])))))], .val false [.i .i64 z]], []) : Snap)) e3).trans (congrArg (fun z : Int => (([argS 122 a, .val false [.i .i64 z], .val false [.i .i64 (i + 1)]], []) : Snap)) e2))
theorem zero95 : FOk Tryz.prog T 95 (szGn [.i .i64, .i .i64, .i .i64, .s, .l 122, .l 9, .l 148] 0) := by
  refine fok (env := envL []) (N := 31) tabT envL_nil mixed Tryz.func95 rfl Tryz.call95 Tryz.ntmps95 ?_
  rintro args ⟨a, l, wa, hs, hl0, hl1, rfl⟩ _
  exact absurd hs (Nat.not_lt_zero _)
theorem zero100 : FOk Tryz.prog T 100 (szSn 122 0) := by
  refine fok (env := envL []) (N := 27) tabT envL_nil mixed Tryz.func100 rfl Tryz.call100 Tryz.ntmps100 ?_
  rintro args ⟨a, l, hs, hl0, hl1, rfl⟩ _
  exact absurd hs (Nat.not_lt_zero _)
theorem both95 (n : Nat) : FOk Tryz.prog T 95 (szGn [.i .i64, .i .i64, .i .i64, .s, .l 122, .l 9, .l 148] n) ∧ FOk Tryz.prog T 100 (szSn 122 n) := by
  induction n with
  | zero => exact ⟨zero95, zero100⟩
  | succ n ih => exact ⟨step95 n ih.2, step100 n ih.1⟩
theorem ok95 : FOk Tryz.prog T 95 (szG [.i .i64, .i .i64, .i .i64, .s, .l 122, .l 9, .l 148]) := FOk.lift (s := fun n => (szGn [.i .i64, .i .i64, .i .i64, .s, .l 122, .l 9, .l 148] n)) (fun n => (both95 n).1) (fun args ⟨a, l, wa, h0, h1, h⟩ => ⟨SizeOf.sizeOf a + 1, a, l, wa, Nat.lt_succ_self _, h0, h1, h⟩) (fun n => rfl)
theorem ok86 : FOk Tryz.prog T 86 (szG [.i .i64, .i .i64, .i .i64, .s, .i .i64, .i .i64, .i .i64, .s, .l 122, .l 9, .l 148]) := by
  refine fok (env := envL [(95, (szG [.i .i64, .i .i64, .i .i64, .s, .l 122, .l 9, .l 148]))]) (N := 19) tabT (envL_cons ok95 envL_nil) mixed Tryz.func86 rfl Tryz.call86 Tryz.ntmps86 ?_
  rintro args ⟨a, l, wa, hl0, hl1, rfl⟩ hwf
  refine ⟨by simp, ?_⟩
  clear hwf
  have hs3 := wa.str (j := 3) rfl
  have hs7 := wa.str (j := 7) rfl
  rw [Tryz.results86]
  repeat' first
    | (refine And.intro ?_ ?_)
    | (intro h; have h2 := szR_no h (by omega); clear h)
    | (intro h; obtain ⟨hw, he⟩ := szR_yes h; (try rw [he]); clear h he)
    | (intro h; have h2 := sub_no h (by omega) (by omega) (by first | exact hs3 | exact hs7); clear h)
    | (intro h; obtain ⟨hw, he⟩ := sub_yes h (by omega) (by omega) (by first | exact hs3 | exact hs7); (try rw [he]); clear h he)
    | (intro h; cases h)
    | (intro h; rw [h])
    | (intro h)
  all_goals first
    | exact Or.inr rfl
    | exact Or.inl rfl
    | exact ⟨_, _, by omega, by omega, rfl⟩
    | exact ⟨_, _, Nat.lt_of_lt_of_le (size_cell (by rw [wa.1]; decide)) (Nat.le_of_lt_succ hs), by omega, by omega, rfl⟩
    | exact ⟨sub a 0 1, _, wa.sub 0 1 (by decide), by omega, by omega, rfl⟩
    | exact ⟨sub a 1 1, _, wa.sub 1 1 (by decide), by omega, by omega, rfl⟩
    | exact ⟨sub a 2 1, _, wa.sub 2 1 (by decide), by omega, by omega, rfl⟩
    | exact ⟨sub a 3 1, _, wa.sub 3 1 (by decide), by omega, by omega, rfl⟩
    | exact ⟨sub a 4 7, _, wa.sub 4 7 (by decide), by omega, by omega, rfl⟩
    | (refine resI ?_; clear wa hs3 hs7; rw [szR_lt]; simp only [csD, CV.d, rowC, ofD, argG, List.zipIdx, List.map, wRow, wD, sub, List.range, List.range.loop, wRow_sl, Nat.reduceAdd, Nat.add_zero, Nat.zero_add] at *; omega)
    | (refine resI ?_; clear wa hs3 hs7; rw [szR_ge] <;> (simp only [csD, CV.d, rowC, ofD, argG, List.zipIdx, List.map, wRow, wD, sub, List.range, List.range.loop, wRow_sl, Nat.reduceAdd, Nat.add_zero, Nat.zero_add] at *; omega))
    | (refine resI ?_; clear wa hs3 hs7; simp only [csD, CV.d, rowC, ofD, argG, List.zipIdx, List.map, wRow, wD, sub, List.range, List.range.loop, wRow_sl, Nat.reduceAdd, Nat.add_zero, Nat.zero_add] at *; simp only [szR]; omega)
    | (show lowEdges _ = true; kernel_rfl) | (show logOk _ _ = true; kernel_rfl) | exact True.intro | exact rfl | exact Or.inr rfl | exact Or.inl rfl
theorem ok63 : FOk Tryz.prog T 63 (szS 124) := by
  refine fok (env := envL [(86, (szG [.i .i64, .i .i64, .i .i64, .s, .i .i64, .i .i64, .i .i64, .s, .l 122, .l 9, .l 148]))]) (N := 27) tabT (envL_cons ok86 envL_nil) mixed Tryz.func63 rfl Tryz.call63 Tryz.ntmps63 ?_
  rintro args ⟨a, l, hl0, hl1, rfl⟩ hwf
  have wa : WfD T (.l 124) (.l a) := arg0 hwf (List.mem_singleton_self _)
  clear hwf
  have la := wa.len
  refine ⟨by simp, ?_⟩
  rw [Tryz.results63]
  repeat' first
    | (refine And.intro ?_ ?_)
    | (intro h; cases h)
    | (intro h; rw [h])
    | (intro h)
  all_goals first
    | (show lowEdges _ = true; kernel_rfl) | (show logOk _ _ = true; kernel_rfl) | exact True.intro | exact rfl | exact Or.inr rfl | exact Or.inl rfl
    | (refine resI ?_; have h := sub_no ‹_› hl0 hl1 la; have := szR_lt (l := l) (w := wRow (csD [.sl false 124 a])) (by rw [wRow_sl]; omega); exact this.symm)
    | skip
  obtain ⟨hb, he⟩ := sub_yes ‹_› hl0 hl1 la
  refine awp_loop (Q := _) [0, 1, 5] [] (fun n s => ∃ i : Int, s = ([argS 124 a, .val false [.i .i64 (l - a.length - wRows (a.take i.toNat))], .val false [.i .i64 i]], []) ∧ 0 ≤ i ∧ i ≤ a.length ∧ n = a.length - i.toNat ∧ 0 ≤ l - a.length - wRows (a.take i.toNat)) ?_ ?_
  · exact ⟨rfl, a.length - 0, 0, congrArg (fun z : Int => (([argS 124 a, .val false [.i .i64 z], .val false [.i .i64 0]], []) : Snap)) (by rw [he]; simp [wRows]), by omega, by omega, rfl, by simp [wRows]; omega⟩
  rintro n s ⟨i, rfl, h1, h2, h3, h4⟩
  repeat' first
    | (refine And.intro ?_ ?_)
    | (intro h; cases h)
    | (intro h; rw [h])
    | (intro h)
  all_goals first
    | (show lowEdges _ = true; kernel_rfl) | (show logOk _ _ = true; kernel_rfl) | exact True.intro | exact rfl | exact Or.inr rfl | exact Or.inl rfl
    | omega
    | exact of_decide_eq_true ‹_›
    | (have hA := wRows_all h1 h2 ‹_›
       refine resI ?_
       have := szR_ge (l := l) (w := wRow (csD [.sl false 124 a])) (by rw [wRow_sl]; omega)
       rw [this, wRow_sl, hA]; omega)
    | skip
  all_goals
    have hi : i < (a.length : Int) := of_decide_eq_true ‹decide (i < (a.length : Int)) = true›
    have wr : WfRow T [.i .i64, .i .i64, .i .i64, .s, .i .i64, .i .i64, .i .i64, .s, .l 122, .l 9, .l 148] (a.getD i.toNat []) := wa.row rfl (by omega)
    have hnx := wRows_next h1 hi
    have hle := wRows_le a (i + 1).toNat
    have hrow : wRow (a.getD i.toNat []) = wRow (csD (rowC [.i .i64, .i .i64, .i .i64, .s, .i .i64, .i .i64, .i .i64, .s, .l 122, .l 9, .l 148] (a.getD i.toNat []))) := (wRow_rowC wr).symm
    first
      | exact ⟨_, _, wr, by omega, by omega, rfl⟩
      | exact ⟨_, _, wr, Nat.lt_of_lt_of_le (size_row (by omega)) (Nat.le_of_lt_succ hs), by omega, by omega, rfl⟩
      | (refine resI ?_
         have hw := szR_no (‹decide (szR (l - a.length - wRows (a.take i.toNat)) (wRow (csD (rowC [.i .i64, .i .i64, .i .i64, .s, .i .i64, .i .i64, .i .i64, .s, .l 122, .l 9, .l 148] (a.getD i.toNat [])))) < 0) = true›) h4
         have := szR_lt (l := l) (w := wRow (csD [.sl false 124 a])) (by rw [wRow_sl]; omega)
         exact this.symm)
      | (obtain ⟨hw, hv⟩ := szR_yes (‹decide (szR (l - a.length - wRows (a.take i.toNat)) (wRow (csD (rowC [.i .i64, .i .i64, .i .i64, .s, .i .i64, .i .i64, .i .i64, .s, .l 122, .l 9, .l 148] (a.getD i.toNat [])))) < 0) = false›)
         refine ⟨a.length - (i + 1).toNat, by omega, i + 1, ?_, by omega, by omega, rfl, by omega⟩
         have e2 : szR (l - a.length - wRows (a.take i.toNat)) (wRow (csD (rowC [.i .i64, .i .i64, .i .i64, .s, .i .i64, .i .i64, .i .i64, .s, .l 122, .l 9, .l 148] (a.getD i.toNat [])))) = l - a.length - wRows (a.take (i + 1).toNat) := hv.trans (by omega)
         have e3 := wrap_next h1 hi la
         exact (congrArg (fun z : Int => (([argS 124 a, .val false [.i .i64 (szR (l - a.length - wRows (a.take i.toNat)) (wRow (csD (rowC [.i .i64, .i .i64, .i .i64, .s, .i .i64, .i .i64, .i .i64, .s, .l 122, .l 9, .l 148] (a.getD i.toNat [])))))], .val false [.i .i64 z]], []) : Snap)) e3).trans (congrArg (fun z : Int => (([argS 124 a, .val false [.i .i64 z], .val false [.i .i64 (i + 1)]], []) : Snap)) e2))
theorem ok45 : FOk Tryz.prog T 45 (szG [.i .i64, .i .i64, .i .i64, .l 3, .i .i64, .i .i64, .i .i64, .i .i64, .i .i64, .s, .s, .i .i64, .s, .s, .i .i64, .i .i64, .l 124]) := by
  refine fok (env := envL [(61, (szS 3)), (62, (szG [.i .i64, .i .i64, .i .i64, .i .i64, .i .i64, .s, .s, .i .i64])), (63, (szS 124))]) (N := 38) tabT (envL_cons ok61 (envL_cons ok62 (envL_cons ok63 envL_nil))) mixed Tryz.func45 rfl Tryz.call45 Tryz.ntmps45 ?_
  rintro args ⟨a, l, wa, hl0, hl1, rfl⟩ hwf
  refine ⟨by simp, ?_⟩
  clear hwf
  have hs9 := wa.str (j := 9) rfl
  have hs10 := wa.str (j := 10) rfl
  have hs12 := wa.str (j := 12) rfl
  have hs13 := wa.str (j := 13) rfl
  rw [Tryz.results45]
  repeat' first
    | (refine And.intro ?_ ?_)
    | (intro h; have h2 := szR_no h (by omega); clear h)
    | (intro h; obtain ⟨hw, he⟩ := szR_yes h; (try rw [he]); clear h he)
    | (intro h; have h2 := sub_no h (by omega) (by omega) (by first | exact hs9 | exact hs10 | exact hs12 | exact hs13); clear h)
    | (intro h; obtain ⟨hw, he⟩ := sub_yes h (by omega) (by omega) (by first | exact hs9 | exact hs10 | exact hs12 | exact hs13); (try rw [he]); clear h he)
    | (intro h; cases h)
    | (intro h; rw [h])
    | (intro h)
  all_goals first
    | exact Or.inr rfl
    | exact Or.inl rfl
    | exact ⟨_, _, by omega, by omega, rfl⟩
    | exact ⟨_, _, Nat.lt_of_lt_of_le (size_cell (by rw [wa.1]; decide)) (Nat.le_of_lt_succ hs), by omega, by omega, rfl⟩
    | exact ⟨sub a 0 1, _, wa.sub 0 1 (by decide), by omega, by omega, rfl⟩
    | exact ⟨sub a 1 1, _, wa.sub 1 1 (by decide), by omega, by omega, rfl⟩
    | exact ⟨sub a 2 1, _, wa.sub 2 1 (by decide), by omega, by omega, rfl⟩
    | exact ⟨sub a 3 1, _, wa.sub 3 1 (by decide), by omega, by omega, rfl⟩
    | exact ⟨sub a 4 8, _, wa.sub 4 8 (by decide), by omega, by omega, rfl⟩
    | exact ⟨sub a 12 1, _, wa.sub 12 1 (by decide), by omega, by omega, rfl⟩
    | exact ⟨sub a 13 1, _, wa.sub 13 1 (by decide), by omega, by omega, rfl⟩
    | exact ⟨sub a 14 1, _, wa.sub 14 1 (by decide), by omega, by omega, rfl⟩
    | exact ⟨sub a 15 1, _, wa.sub 15 1 (by decide), by omega, by omega, rfl⟩
    | exact ⟨sub a 16 1, _, wa.sub 16 1 (by decide), by omega, by omega, rfl⟩
    | (refine resI ?_; clear wa hs9 hs10 hs12 hs13; rw [szR_lt]; simp only [csD, CV.d, rowC, ofD, argG, List.zipIdx, List.map, wRow, wD, sub, List.range, List.range.loop, wRow_sl, Nat.reduceAdd, Nat.add_zero, Nat.zero_add] at *; omega)
    | (refine resI ?_; clear wa hs9 hs10 hs12 hs13; rw [szR_ge] <;> (simp only [csD, CV.d, rowC, ofD, argG, List.zipIdx, List.map, wRow, wD, sub, List.range, List.range.loop, wRow_sl, Nat.reduceAdd, Nat.add_zero, Nat.zero_add] at *; omega))
    | (refine resI ?_; clear wa hs9 hs10 hs12 hs13; simp only [csD, CV.d, rowC, ofD, argG, List.zipIdx, List.map, wRow, wD, sub, List.range, List.range.loop, wRow_sl, Nat.reduceAdd, Nat.add_zero, Nat.zero_add] at *; simp only [szR]; omega)
    | (show lowEdges _ = true; kernel_rfl) | (show logOk _ _ = true; kernel_rfl) | exact True.intro | exact rfl | exact Or.inr rfl | exact Or.inl rfl
theorem ok26 : FOk Tryz.prog T 26 (szS 72) := by
  refine fok (env := envL [(45, (szG [.i .i64, .i .i64, .i .i64, .l 3, .i .i64, .i .i64, .i .i64, .i .i64, .i .i64, .s, .s, .i .i64, .s, .s, .i .i64, .i .i64, .l 124]))]) (N := 27) tabT (envL_cons ok45 envL_nil) mixed Tryz.func26 rfl Tryz.call26 Tryz.ntmps26 ?_
  rintro args ⟨a, l, hl0, hl1, rfl⟩ hwf
  have wa : WfD T (.l 72) (.l a) := arg0 hwf (List.mem_singleton_self _)
  clear hwf
  have la := wa.len
  refine ⟨by simp, ?_⟩
  rw [Tryz.results26]
  repeat' first
    | (refine And.intro ?_ ?_)
    | (intro h; cases h)
    | (intro h; rw [h])
    | (intro h)
  all_goals first
    | (show lowEdges _ = true; kernel_rfl) | (show logOk _ _ = true; kernel_rfl) | exact True.intro | exact rfl | exact Or.inr rfl | exact Or.inl rfl
    | (refine resI ?_; have h := sub_no ‹_› hl0 hl1 la; have := szR_lt (l := l) (w := wRow (csD [.sl false 72 a])) (by rw [wRow_sl]; omega); exact this.symm)
    | skip
  obtain ⟨hb, he⟩ := sub_yes ‹_› hl0 hl1 la
  refine awp_loop (Q := _) [0, 1, 5] [] (fun n s => ∃ i : Int, s = ([argS 72 a, .val false [.i .i64 (l - a.length - wRows (a.take i.toNat))], .val false [.i .i64 i]], []) ∧ 0 ≤ i ∧ i ≤ a.length ∧ n = a.length - i.toNat ∧ 0 ≤ l - a.length - wRows (a.take i.toNat)) ?_ ?_
  · exact ⟨rfl, a.length - 0, 0, congrArg (fun z : Int => (([argS 72 a, .val false [.i .i64 z], .val false [.i .i64 0]], []) : Snap)) (by rw [he]; simp [wRows]), by omega, by omega, rfl, by simp [wRows]; omega⟩
  rintro n s ⟨i, rfl, h1, h2, h3, h4⟩
  repeat' first
    | (refine And.intro ?_ ?_)
    | (intro h; cases h)
    | (intro h; rw [h])
    | (intro h)
  all_goals first
    | (show lowEdges _ = true; kernel_rfl) | (show logOk _ _ = true; kernel_rfl) | exact True.intro | exact rfl | exact Or.inr rfl | exact Or.inl rfl
    | omega
    | exact of_decide_eq_true ‹_›
    | (have hA := wRows_all h1 h2 ‹_›
       refine resI ?_
       have := szR_ge (l := l) (w := wRow (csD [.sl false 72 a])) (by rw [wRow_sl]; omega)
       rw [this, wRow_sl, hA]; omega)
    | skip
  all_goals
    have hi : i < (a.length : Int) := of_decide_eq_true ‹decide (i < (a.length : Int)) = true›
    have wr : WfRow T [.i .i64, .i .i64, .i .i64, .l 3, .i .i64, .i .i64, .i .i64, .i .i64, .i .i64, .s, .s, .i .i64, .s, .s, .i .i64, .i .i64, .l 124] (a.getD i.toNat []) := wa.row rfl (by omega)
    have hnx := wRows_next h1 hi
    have hle := wRows_le a (i + 1).toNat
    have hrow : wRow (a.getD i.toNat []) = wRow (csD (rowC [.i .i64, .i .i64, .i .i64, .l 3, .i .i64, .i .i64, .i .i64, .i .i64, .i .i64, .s, .s, .i .i64, .s, .s, .i .i64, .i .i64, .l 124] (a.getD i.toNat []))) := (wRow_rowC wr).symm
    first
      | exact ⟨_, _, wr, by omega, by omega, rfl⟩
      | exact ⟨_, _, wr, Nat.lt_of_lt_of_le (size_row (by omega)) (Nat.le_of_lt_succ hs), by omega, by omega, rfl⟩
      | (refine resI ?_
         have hw := szR_no (‹decide (szR (l - a.length - wRows (a.take i.toNat)) (wRow (csD (rowC [.i .i64, .i .i64, .i .i64, .l 3, .i .i64, .i .i64, .i .i64, .i .i64, .i .i64, .s, .s, .i .i64, .s, .s, .i .i64, .i .i64, .l 124] (a.getD i.toNat [])))) < 0) = true›) h4
         have := szR_lt (l := l) (w := wRow (csD [.sl false 72 a])) (by rw [wRow_sl]; omega)
         exact this.symm)
      | (obtain ⟨hw, hv⟩ := szR_yes (‹decide (szR (l - a.length - wRows (a.take i.toNat)) (wRow (csD (rowC [.i .i64, .i .i64, .i .i64, .l 3, .i .i64, .i .i64, .i .i64, .i .i64, .i .i64, .s, .s, .i .i64, .s, .s, .i .i64, .i .i64, .l 124] (a.getD i.toNat [])))) < 0) = false›)
         refine ⟨a.length - (i + 1).toNat, by omega, i + 1, ?_, by omega, by omega, rfl, by omega⟩
         have e2 : szR (l - a.length - wRows (a.take i.toNat)) (wRow (csD (rowC [.i .i64, .i .i64, .i .i64, .l 3, .i .i64, .i .i64, .i .i64, .i .i64, .i .i64, .s, .s, .i .i64, .s, .s, .i .i64, .i .i64, .l 124] (a.getD i.toNat [])))) = l - a.length - wRows (a.take (i + 1).toNat) := hv.trans (by omega)
         have e3 := wrap_next h1 hi la
         exact (congrArg (fun z : Int => (([argS 72 a, .val false [.i .i64 (szR (l - a.length - wRows (a.take i.toNat)) (wRow (csD (rowC [.i .i64, .i .i64, .i .i64, .l 3, .i .i64, .i .i64, .i .i64, .i .i64, .i .i64, .s, .s, .i .i64, .s, .s, .i .i64, .i .i64, .l 124] (a.getD i.toNat [])))))], .val false [.i .i64 z]], []) : Snap)) e3).trans (congrArg (fun z : Int => (([argS 72 a, .val false [.i .i64 z], .val false [.i .i64 (i + 1)]], []) : Snap)) e2))
theorem ok11 : FOk Tryz.prog T 11 (szG [.i .i64, .l 72]) := by
  refine fok (env := envL [(26, (szS 72))]) (N := 12) tabT (envL_cons ok26 envL_nil) mixed Tryz.func11 rfl Tryz.call11 Tryz.ntmps11 ?_
  rintro args ⟨a, l, wa, hl0, hl1, rfl⟩ hwf
  refine ⟨by simp, ?_⟩
  clear hwf
  rw [Tryz.results11]
  repeat' first
    | (refine And.intro ?_ ?_)
    | (intro h; have h2 := szR_no h (by omega); clear h)
    | (intro h; obtain ⟨hw, he⟩ := szR_yes h; (try rw [he]); clear h he)
    | (intro h; cases h)
    | (intro h; rw [h])
    | (intro h)
  all_goals first
    | exact Or.inr rfl
    | exact Or.inl rfl
    | exact ⟨_, _, by omega, by omega, rfl⟩
    | exact ⟨_, _, Nat.lt_of_lt_of_le (size_cell (by rw [wa.1]; decide)) (Nat.le_of_lt_succ hs), by omega, by omega, rfl⟩
    | exact ⟨sub a 0 1, _, wa.sub 0 1 (by decide), by omega, by omega, rfl⟩
    | exact ⟨sub a 1 1, _, wa.sub 1 1 (by decide), by omega, by omega, rfl⟩
    | (refine resI ?_; clear wa; rw [szR_lt]; simp only [csD, CV.d, rowC, ofD, argG, List.zipIdx, List.map, wRow, wD, sub, List.range, List.range.loop, wRow_sl, Nat.reduceAdd, Nat.add_zero, Nat.zero_add] at *; omega)
    | (refine resI ?_; clear wa; rw [szR_ge] <;> (simp only [csD, CV.d, rowC, ofD, argG, List.zipIdx, List.map, wRow, wD, sub, List.range, List.range.loop, wRow_sl, Nat.reduceAdd, Nat.add_zero, Nat.zero_add] at *; omega))
    | (refine resI ?_; clear wa; simp only [csD, CV.d, rowC, ofD, argG, List.zipIdx, List.map, wRow, wD, sub, List.range, List.range.loop, wRow_sl, Nat.reduceAdd, Nat.add_zero, Nat.zero_add] at *; simp only [szR]; omega)
    | (show lowEdges _ = true; kernel_rfl) | (show logOk _ _ = true; kernel_rfl) | exact True.intro | exact rfl | exact Or.inr rfl | exact Or.inl rfl
theorem ok4 : FOk Tryz.prog T 4 (szS 33) := by
  refine fok (env := envL [(11, (szG [.i .i64, .l 72]))]) (N := 27) tabT (envL_cons ok11 envL_nil) mixed Tryz.func4 rfl Tryz.call4 Tryz.ntmps4 ?_
  rintro args ⟨a, l, hl0, hl1, rfl⟩ hwf
  have wa : WfD T (.l 33) (.l a) := arg0 hwf (List.mem_singleton_self _)
  clear hwf
  have la := wa.len
  refine ⟨by simp, ?_⟩
  rw [Tryz.results4]
  repeat' first
    | (refine And.intro ?_ ?_)
    | (intro h; cases h)
    | (intro h; rw [h])
    | (intro h)
  all_goals first
    | (show lowEdges _ = true; kernel_rfl) | (show logOk _ _ = true; kernel_rfl) | exact True.intro | exact rfl | exact Or.inr rfl | exact Or.inl rfl
    | (refine resI ?_; have h := sub_no ‹_› hl0 hl1 la; have := szR_lt (l := l) (w := wRow (csD [.sl false 33 a])) (by rw [wRow_sl]; omega); exact this.symm)
    | skip
  obtain ⟨hb, he⟩ := sub_yes ‹_› hl0 hl1 la
  refine awp_loop (Q := _) [0, 1, 5] [] (fun n s => ∃ i : Int, s = ([argS 33 a, .val false [.i .i64 (l - a.length - wRows (a.take i.toNat))], .val false [.i .i64 i]], []) ∧ 0 ≤ i ∧ i ≤ a.length ∧ n = a.length - i.toNat ∧ 0 ≤ l - a.length - wRows (a.take i.toNat)) ?_ ?_
  · exact ⟨rfl, a.length - 0, 0, congrArg (fun z : Int => (([argS 33 a, .val false [.i .i64 z], .val false [.i .i64 0]], []) : Snap)) (by rw [he]; simp [wRows]), by omega, by omega, rfl, by simp [wRows]; omega⟩
  rintro n s ⟨i, rfl, h1, h2, h3, h4⟩
  repeat' first
    | (refine And.intro ?_ ?_)
    | (intro h; cases h)
    | (intro h; rw [h])
    | (intro h)
  all_goals first
    | (show lowEdges _ = true; kernel_rfl) | (show logOk _ _ = true; kernel_rfl) | exact True.intro | exact rfl | exact Or.inr rfl | exact Or.inl rfl
    | omega
    | exact of_decide_eq_true ‹_›
    | (have hA := wRows_all h1 h2 ‹_›
       refine resI ?_
       have := szR_ge (l := l) (w := wRow (csD [.sl false 33 a])) (by rw [wRow_sl]; omega)
       rw [this, wRow_sl, hA]; omega)
    | skip
  all_goals
    have hi : i < (a.length : Int) := of_decide_eq_true ‹decide (i < (a.length : Int)) = true›
    have wr : WfRow T [.i .i64, .l 72] (a.getD i.toNat []) := wa.row rfl (by omega)
    have hnx := wRows_next h1 hi
    have hle := wRows_le a (i + 1).toNat
    have hrow : wRow (a.getD i.toNat []) = wRow (csD (rowC [.i .i64, .l 72] (a.getD i.toNat []))) := (wRow_rowC wr).symm
    first
      | exact ⟨_, _, wr, by omega, by omega, rfl⟩
      | exact ⟨_, _, wr, Nat.lt_of_lt_of_le (size_row (by omega)) (Nat.le_of_lt_succ hs), by omega, by omega, rfl⟩
      | (refine resI ?_
         have hw := szR_no (‹decide (szR (l - a.length - wRows (a.take i.toNat)) (wRow (csD (rowC [.i .i64, .l 72] (a.getD i.toNat [])))) < 0) = true›) h4
         have := szR_lt (l := l) (w := wRow (csD [.sl false 33 a])) (by rw [wRow_sl]; omega)
         exact this.symm)
      | (obtain ⟨hw, hv⟩ := szR_yes (‹decide (szR (l - a.length - wRows (a.take i.toNat)) (wRow (csD (rowC [.i .i64, .l 72] (a.getD i.toNat [])))) < 0) = false›)
         refine ⟨a.length - (i + 1).toNat, by omega, i + 1, ?_, by omega, by omega, rfl, by omega⟩
         have e2 : szR (l - a.length - wRows (a.take i.toNat)) (wRow (csD (rowC [.i .i64, .l 72] (a.getD i.toNat [])))) = l - a.length - wRows (a.take (i + 1).toNat) := hv.trans (by omega)
         have e3 := wrap_next h1 hi la
         exact (congrArg (fun z : Int => (([argS 33 a, .val false [.i .i64 (szR (l - a.length - wRows (a.take i.toNat)) (wRow (csD (rowC [.i .i64, .l 72] (a.getD i.toNat [])))))], .val false [.i .i64 z]], []) : Snap)) e3).trans (congrArg (fun z : Int => (([argS 33 a, .val false [.i .i64 z], .val false [.i .i64 (i + 1)]], []) : Snap)) e2))
end Go.Proofs.YtaecbmjmcpdgdaaGreat.Ab
