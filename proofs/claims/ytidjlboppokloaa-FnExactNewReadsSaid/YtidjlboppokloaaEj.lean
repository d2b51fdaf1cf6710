/- Measures: printed by a program of this claim. -/
import Derived.Test.YtidjlboppokloaaEw
namespace Go.Proofs.Ytidjlboppokloaa.Ab
open Go.RowKit
set_option linter.unusedVariables false
set_option linter.unusedSimpArgs false
set_option maxRecDepth 100000
set_option maxHeartbeats 1000000
/-- laws.szStringS -/
theorem ok118 : FOk Try.prog T 118 (szS 9) := by
  refine fok (env := envL []) (N := 28) tabT envL_nil mixed Try.func118 rfl Try.call118 Try.ntmps118 ?_
  rintro args ⟨a, l, hl0, hl1, rfl⟩ hwf
  have wa : WfD T (.l 9) (.l a) := arg0 hwf (List.mem_singleton_self _)
  clear hwf
  have la := wa.len
  refine ⟨by simp, ?_⟩
  rw [Try.results118]
  repeat' first
    | (refine And.intro ?_ ?_)
    | (intro h; cases h)
    | (intro h; rw [h])
    | (intro h)
  all_goals first
    | (show lowEdges _ = true; kernel_rfl) | (show logOk _ _ = true; kernel_rfl) | exact True.intro | exact rfl | exact Or.inr rfl | exact Or.inl rfl
    | (refine resI ?_; have h := sub_no ‹_› hl0 hl1 la; have := szR_lt (l := l) (w := wRow (csD [.sl false 9 a])) (by rw [wRow_sl]; omega); exact this.symm)
    | skip
  obtain ⟨hb, he⟩ := sub_yes ‹_› hl0 hl1 la
  refine awp_loop (Q := _) [0, 1, 5] [] (fun n s => ∃ i : Int, s = ([argS 9 a, .val false [.i .i64 (l - a.length - wRows (a.take i.toNat))], .val false [.i .i64 i]], []) ∧ 0 ≤ i ∧ i ≤ a.length ∧ n = a.length - i.toNat ∧ 0 ≤ l - a.length - wRows (a.take i.toNat)) ?_ ?_
  · exact ⟨rfl, a.length - 0, 0, congrArg (fun z : Int => (([argS 9 a, .val false [.i .i64 z], .val false [.i .i64 0]], []) : Snap)) (by rw [he]; simp [wRows]), by omega, by omega, rfl, by simp [wRows]; omega⟩
  rintro n s ⟨i, rfl, h1, h2, h3, h4⟩
  repeat' first
    | (refine And.intro ?_ ?_)
    | (intro h; cases h)
    | (intro h; rw [h])
    | (intro h)
  all_goals first
    | (show lowEdges _ = true; kernel_rfl) | (show logOk _ _ = true; kernel_rfl) | exact True.intro | exact rfl | exact Or.inr rfl | exact Or.inl rfl
    | omega
    | exact of_decide_eq_true ‹_›
    | (have hA := wRows_all h1 h2 ‹_›
       refine resI ?_
       have := szR_ge (l := l) (w := wRow (csD [.sl false 9 a])) (by rw [wRow_sl]; omega)
       rw [this, wRow_sl, hA]; omega)
    | skip
  all_goals
    have hi : i < (a.length : Int) := of_decide_eq_true ‹decide (i < (a.length : Int)) = true›
    have wr : WfRow T [.s] (a.getD i.toNat []) := wa.row rfl (by omega)
    have hnx := wRows_next h1 hi
    have hle := wRows_le a (i + 1).toNat
    have hstr := wr.str (j := 0) rfl
    have hrow : wRow (a.getD i.toNat []) = ((a.getD i.toNat []).getD 0 default).str.size := by
      rw [← wRow_rowC wr]
      simp [csD, CV.d, rowC, ofD, argG, List.zipIdx, List.map, wRow, wD, sub, List.range, List.range.loop, Nat.reduceAdd]
    first
      | exact ⟨_, _, wr, by omega, by omega, rfl⟩
      | exact ⟨_, _, wr, Nat.lt_of_lt_of_le (size_row (by omega)) (Nat.le_of_lt_succ hs), by omega, by omega, rfl⟩
      | (refine resI ?_
         have hw := sub_no (‹decide (IntKind.i64.wrap ((l - a.length - wRows (a.take i.toNat)) - ((a.getD i.toNat []).getD 0 default).str.size) < 0) = true›) h4 (by omega) hstr
         have := szR_lt (l := l) (w := wRow (csD [.sl false 9 a])) (by rw [wRow_sl]; omega)
         exact this.symm)
      | (obtain ⟨hw, hv⟩ := sub_yes (‹decide (IntKind.i64.wrap ((l - a.length - wRows (a.take i.toNat)) - ((a.getD i.toNat []).getD 0 default).str.size) < 0) = false›) h4 (by omega) hstr
         refine ⟨a.length - (i + 1).toNat, by omega, i + 1, ?_, by omega, by omega, rfl, by omega⟩
         have e2 : IntKind.i64.wrap ((l - a.length - wRows (a.take i.toNat)) - ((a.getD i.toNat []).getD 0 default).str.size) = l - a.length - wRows (a.take (i + 1).toNat) := hv.trans (by omega)
         have e3 := wrap_next h1 hi la
         exact (congrArg (fun z : Int => (([argS 9 a, .val false [.i .i64 (IntKind.i64.wrap ((l - a.length - wRows (a.take i.toNat)) - ((a.getD i.toNat []).getD 0 default).str.size))], .val false [.i .i64 z]], []) : Snap)) e3).trans (congrArg (fun z : Int => (([argS 9 a, .val false [.i .i64 z], .val false [.i .i64 (i + 1)]], []) : Snap)) e2))
/-- laws.szIntS -/
theorem ok135 : FOk Try.prog T 135 (szS 3) := by
  refine fok (env := envL []) (N := 12) tabT envL_nil mixed Try.func135 rfl Try.call135 Try.ntmps135 ?_
  rintro args ⟨a, l, hl0, hl1, rfl⟩ hwf
  have wa : WfD T (.l 3) (.l a) := arg0 hwf (List.mem_singleton_self _)
  clear hwf
  have la := wa.len
  refine ⟨by simp, ?_⟩
  rw [Try.results135]
  repeat' first
    | (refine And.intro ?_ ?_)
    | (intro h; cases h)
    | (intro h; rw [h])
    | (intro h)
  all_goals first
    | (show lowEdges _ = true; kernel_rfl) | (show logOk _ _ = true; kernel_rfl) | exact True.intro | exact rfl | exact Or.inr rfl | exact Or.inl rfl
    | (refine resI ?_; have h := sub_no ‹_› hl0 hl1 la; have := szR_lt (l := l) (w := wRow (csD [.sl false 3 a])) (by rw [wRow_sl]; omega); exact this.symm)
    | skip
  have hz : wRows a = 0 := wRows_zero (cts := [.i .i64]) (fun k hk => wa.row rfl hk) (fun r hr => by
    rw [← wRow_rowC hr]
    simp [csD, CV.d, rowC, ofD, argG, List.zipIdx, List.map, wRow, wD, sub, List.range, List.range.loop, Nat.reduceAdd])
  obtain ⟨hb, he⟩ := sub_yes ‹_› hl0 hl1 la
  refine resI (he.trans ?_)
  rw [szR_ge (by rw [wRow_sl, hz]; omega), wRow_sl, hz]
  simp
/-- laws.szOriginS -/
theorem ok136 : FOk Try.prog T 136 (szS 172) := by
  refine fok (env := envL []) (N := 12) tabT envL_nil mixed Try.func136 rfl Try.call136 Try.ntmps136 ?_
  rintro args ⟨a, l, hl0, hl1, rfl⟩ hwf
  have wa : WfD T (.l 172) (.l a) := arg0 hwf (List.mem_singleton_self _)
  clear hwf
  have la := wa.len
  refine ⟨by simp, ?_⟩
  rw [Try.results136]
  repeat' first
    | (refine And.intro ?_ ?_)
    | (intro h; cases h)
    | (intro h; rw [h])
    | (intro h)
  all_goals first
    | (show lowEdges _ = true; kernel_rfl) | (show logOk _ _ = true; kernel_rfl) | exact True.intro | exact rfl | exact Or.inr rfl | exact Or.inl rfl
    | (refine resI ?_; have h := sub_no ‹_› hl0 hl1 la; have := szR_lt (l := l) (w := wRow (csD [.sl false 172 a])) (by rw [wRow_sl]; omega); exact this.symm)
    | skip
  have hz : wRows a = 0 := wRows_zero (cts := [.i .i64, .i .i64]) (fun k hk => wa.row rfl hk) (fun r hr => by
    rw [← wRow_rowC hr]
    simp [csD, CV.d, rowC, ofD, argG, List.zipIdx, List.map, wRow, wD, sub, List.range, List.range.loop, Nat.reduceAdd])
  obtain ⟨hb, he⟩ := sub_yes ‹_› hl0 hl1 la
  refine resI (he.trans ?_)
  rw [szR_ge (by rw [wRow_sl, hz]; omega), wRow_sl, hz]
  simp
/-- laws.szRow -/
theorem ok130 : FOk Try.prog T 130 (szG [.l 3, .l 172]) := by
  refine fok (env := envL [(135, (szS 3)), (136, (szS 172))]) (N := 18) tabT (envL_cons ok135 (envL_cons ok136 envL_nil)) mixed Try.func130 rfl Try.call130 Try.ntmps130 ?_
  rintro args ⟨a, l, wa, hl0, hl1, rfl⟩ hwf
  refine ⟨by simp, ?_⟩
  clear hwf
  rw [Try.results130]
  repeat' first
    | (refine And.intro ?_ ?_)
    | (intro h; have h2 := szR_no h (by omega); clear h)
    | (intro h; obtain ⟨hw, he⟩ := szR_yes h; (try rw [he]); clear h he)
    | (intro h; cases h)
    | (intro h; rw [h])
    | (intro h)
  all_goals first
    | exact Or.inr rfl
    | exact Or.inl rfl
    | exact ⟨_, _, by omega, by omega, rfl⟩
    | exact ⟨_, _, Nat.lt_of_lt_of_le (size_cell (by rw [wa.1]; decide)) (Nat.le_of_lt_succ hs), by omega, by omega, rfl⟩
    | exact ⟨sub a 0 1, _, wa.sub 0 1 (by decide), by omega, by omega, rfl⟩
    | exact ⟨sub a 1 1, _, wa.sub 1 1 (by decide), by omega, by omega, rfl⟩
    | (refine resI ?_; clear wa; rw [szR_lt]; simp only [csD, CV.d, rowC, ofD, argG, List.zipIdx, List.map, wRow, wD, sub, List.range, List.range.loop, wRow_sl, Nat.reduceAdd, Nat.add_zero, Nat.zero_add] at *; omega)
    | (refine resI ?_; clear wa; rw [szR_ge] <;> (simp only [csD, CV.d, rowC, ofD, argG, List.zipIdx, List.map, wRow, wD, sub, List.range, List.range.loop, wRow_sl, Nat.reduceAdd, Nat.add_zero, Nat.zero_add] at *; omega))
    | (refine resI ?_; clear wa; simp only [csD, CV.d, rowC, ofD, argG, List.zipIdx, List.map, wRow, wD, sub, List.range, List.range.loop, wRow_sl, Nat.reduceAdd, Nat.add_zero, Nat.zero_add] at *; simp only [szR]; omega)
    | (show lowEdges _ = true; kernel_rfl) | (show logOk _ _ = true; kernel_rfl) | exact True.intro | exact rfl | exact Or.inr rfl | exact Or.inl rfl
/-- laws.szRowS -/
theorem ok119 : FOk Try.prog T 119 (szS 162) := by
  refine fok (env := envL [(130, (szG [.l 3, .l 172]))]) (N := 27) tabT (envL_cons ok130 envL_nil) mixed Try.func119 rfl Try.call119 Try.ntmps119 ?_
  rintro args ⟨a, l, hl0, hl1, rfl⟩ hwf
  have wa : WfD T (.l 162) (.l a) := arg0 hwf (List.mem_singleton_self _)
  clear hwf
  have la := wa.len
  refine ⟨by simp, ?_⟩
  rw [Try.results119]
  repeat' first
    | (refine And.intro ?_ ?_)
    | (intro h; cases h)
    | (intro h; rw [h])
    | (intro h)
  all_goals first
    | (show lowEdges _ = true; kernel_rfl) | (show logOk _ _ = true; kernel_rfl) | exact True.intro | exact rfl | exact Or.inr rfl | exact Or.inl rfl
    | (refine resI ?_; have h := sub_no ‹_› hl0 hl1 la; have := szR_lt (l := l) (w := wRow (csD [.sl false 162 a])) (by rw [wRow_sl]; omega); exact this.symm)
    | skip
  obtain ⟨hb, he⟩ := sub_yes ‹_› hl0 hl1 la
  refine awp_loop (Q := _) [0, 1, 5] [] (fun n s => ∃ i : Int, s = ([argS 162 a, .val false [.i .i64 (l - a.length - wRows (a.take i.toNat))], .val false [.i .i64 i]], []) ∧ 0 ≤ i ∧ i ≤ a.length ∧ n = a.length - i.toNat ∧ 0 ≤ l - a.length - wRows (a.take i.toNat)) ?_ ?_
  · exact ⟨rfl, a.length - 0, 0, congrArg (fun z : Int => (([argS 162 a, .val false [.i .i64 z], .val false [.i .i64 0]], []) : Snap)) (by rw [he]; simp [wRows]), by omega, by omega, rfl, by simp [wRows]; omega⟩
  rintro n s ⟨i, rfl, h1, h2, h3, h4⟩
  repeat' first
    | (refine And.intro ?_ ?_)
    | (intro h; cases h)
    | (intro h; rw [h])
    | (intro h)
  all_goals first
    | (show lowEdges _ = true; kernel_rfl) | (show logOk _ _ = true; kernel_rfl) | exact True.intro | exact rfl | exact Or.inr rfl | exact Or.inl rfl
    | omega
    | exact of_decide_eq_true ‹_›
    | (have hA := wRows_all h1 h2 ‹_›
       refine resI ?_
       have := szR_ge (l := l) (w := wRow (csD [.sl false 162 a])) (by rw [wRow_sl]; omega)
       rw [this, wRow_sl, hA]; omega)
    | skip
  all_goals
    have hi : i < (a.length : Int) := of_decide_eq_true ‹decide (i < (a.length : Int)) = true›
    have wr : WfRow T [.l 3, .l 172] (a.getD i.toNat []) := wa.row rfl (by omega)
    have hnx := wRows_next h1 hi
    have hle := wRows_le a (i + 1).toNat
    have hrow : wRow (a.getD i.toNat []) = wRow (csD (rowC [.l 3, .l 172] (a.getD i.toNat []))) := (wRow_rowC wr).symm
    first
      | exact ⟨_, _, wr, by omega, by omega, rfl⟩
      | exact ⟨_, _, wr, Nat.lt_of_lt_of_le (size_row (by omega)) (Nat.le_of_lt_succ hs), by omega, by omega, rfl⟩
      | (refine resI ?_
         have hw := szR_no (‹decide (szR (l - a.length - wRows (a.take i.toNat)) (wRow (csD (rowC [.l 3, .l 172] (a.getD i.toNat [])))) < 0) = true›) h4
         have := szR_lt (l := l) (w := wRow (csD [.sl false 162 a])) (by rw [wRow_sl]; omega)
         exact this.symm)
      | (obtain ⟨hw, hv⟩ := szR_yes (‹decide (szR (l - a.length - wRows (a.take i.toNat)) (wRow (csD (rowC [.l 3, .l 172] (a.getD i.toNat [])))) < 0) = false›)
         refine ⟨a.length - (i + 1).toNat, by omega, i + 1, ?_, by omega, by omega, rfl, by omega⟩
         have e2 : szR (l - a.length - wRows (a.take i.toNat)) (wRow (csD (rowC [.l 3, .l 172] (a.getD i.toNat [])))) = l - a.length - wRows (a.take (i + 1).toNat) := hv.trans (by omega)
         have e3 := wrap_next h1 hi la
         exact (congrArg (fun z : Int => (([argS 162 a, .val false [.i .i64 (szR (l - a.length - wRows (a.take i.toNat)) (wRow (csD (rowC [.l 3, .l 172] (a.getD i.toNat [])))))], .val false [.i .i64 z]], []) : Snap)) e3).trans (congrArg (fun z : Int => (([argS 162 a, .val false [.i .i64 z], .val false [.i .i64 (i + 1)]], []) : Snap)) e2))
/-- laws.szValue -/
theorem step104 (n : Nat) (hn : FOk Try.prog T 117 (szSn 108 n)) : FOk Try.prog T 104 (szGn [.i .i64, .i .i64, .i .i64, .s, .l 108, .l 9, .l 162] (n + 1)) := by
  refine fok (env := envL [(117, (szSn 108 n)), (118, (szS 9)), (119, (szS 162))]) (N := 31) tabT (envL_cons hn (envL_cons ok118 (envL_cons ok119 envL_nil))) mixed Try.func104 rfl Try.call104 Try.ntmps104 ?_
  rintro args ⟨a, l, wa, hs, hl0, hl1, rfl⟩ hwf
  refine ⟨by simp, ?_⟩
  clear hwf
  have hs3 := wa.str (j := 3) rfl
  rw [Try.results104]
  repeat' first
    | (refine And.intro ?_ ?_)
    | (intro h; have h2 := szR_no h (by omega); clear h)
    | (intro h; obtain ⟨hw, he⟩ := szR_yes h; (try rw [he]); clear h he)
    | (intro h; have h2 := sub_no h (by omega) (by omega) (by first | exact hs3); clear h)
    | (intro h; obtain ⟨hw, he⟩ := sub_yes h (by omega) (by omega) (by first | exact hs3); (try rw [he]); clear h he)
    | (intro h; cases h)
    | (intro h; rw [h])
    | (intro h)
  all_goals first
    | exact Or.inr rfl
    | exact Or.inl rfl
    | exact ⟨_, _, by omega, by omega, rfl⟩
    | exact ⟨_, _, Nat.lt_of_lt_of_le (size_cell (by rw [wa.1]; decide)) (Nat.le_of_lt_succ hs), by omega, by omega, rfl⟩
    | exact ⟨sub a 0 1, _, wa.sub 0 1 (by decide), by omega, by omega, rfl⟩
    | exact ⟨sub a 1 1, _, wa.sub 1 1 (by decide), by omega, by omega, rfl⟩
    | exact ⟨sub a 2 1, _, wa.sub 2 1 (by decide), by omega, by omega, rfl⟩
    | exact ⟨sub a 3 1, _, wa.sub 3 1 (by decide), by omega, by omega, rfl⟩
    | exact ⟨sub a 4 1, _, wa.sub 4 1 (by decide), by omega, by omega, rfl⟩
    | exact ⟨sub a 5 1, _, wa.sub 5 1 (by decide), by omega, by omega, rfl⟩
    | exact ⟨sub a 6 1, _, wa.sub 6 1 (by decide), by omega, by omega, rfl⟩
    | (refine resI ?_; clear wa hs3; rw [szR_lt]; simp only [csD, CV.d, rowC, ofD, argG, List.zipIdx, List.map, wRow, wD, sub, List.range, List.range.loop, wRow_sl, Nat.reduceAdd, Nat.add_zero, Nat.zero_add] at *; omega)
    | (refine resI ?_; clear wa hs3; rw [szR_ge] <;> (simp only [csD, CV.d, rowC, ofD, argG, List.zipIdx, List.map, wRow, wD, sub, List.range, List.range.loop, wRow_sl, Nat.reduceAdd, Nat.add_zero, Nat.zero_add] at *; omega))
    | (refine resI ?_; clear wa hs3; simp only [csD, CV.d, rowC, ofD, argG, List.zipIdx, List.map, wRow, wD, sub, List.range, List.range.loop, wRow_sl, Nat.reduceAdd, Nat.add_zero, Nat.zero_add] at *; simp only [szR]; omega)
    | (show lowEdges _ = true; kernel_rfl) | (show logOk _ _ = true; kernel_rfl) | exact True.intro | exact rfl | exact Or.inr rfl | exact Or.inl rfl
/-- laws.szValueS -/
theorem step117 (n : Nat) (hn : FOk Try.prog T 104 (szGn [.i .i64, .i .i64, .i .i64, .s, .l 108, .l 9, .l 162] n)) : FOk Try.prog T 117 (szSn 108 (n + 1)) := by
  refine fok (env := envL [(104, (szGn [.i .i64, .i .i64, .i .i64, .s, .l 108, .l 9, .l 162] n))]) (N := 27) tabT (envL_cons hn envL_nil) mixed Try.func117 rfl Try.call117 Try.ntmps117 ?_
  rintro args ⟨a, l, hs, hl0, hl1, rfl⟩ hwf
  have wa : WfD T (.l 108) (.l a) := arg0 hwf (List.mem_singleton_self _)
  clear hwf
  have la := wa.len
  refine ⟨by simp, ?_⟩
  rw [Try.results117]
  repeat' first
    | (refine And.intro ?_ ?_)
    | (intro h; cases h)
    | (intro h; rw [h])
    | (intro h)
  all_goals first
    | (show lowEdges _ = true; kernel_rfl) | (show logOk _ _ = true; kernel_rfl) | exact True.intro | exact rfl | exact Or.inr rfl | exact Or.inl rfl
    | (refine resI ?_; have h := sub_no ‹_› hl0 hl1 la; have := szR_lt (l := l) (w := wRow (csD [.sl false 108 a])) (by rw [wRow_sl]; omega); exact this.symm)
    | skip
  obtain ⟨hb, he⟩ := sub_yes ‹_› hl0 hl1 la
  refine awp_loop (Q := _) [0, 1, 5] [] (fun n s => ∃ i : Int, s = ([argS 108 a, .val false [.i .i64 (l - a.length - wRows (a.take i.toNat))], .val false [.i .i64 i]], []) ∧ 0 ≤ i ∧ i ≤ a.length ∧ n = a.length - i.toNat ∧ 0 ≤ l - a.length - wRows (a.take i.toNat)) ?_ ?_
  · exact ⟨rfl, a.length - 0, 0, congrArg (fun z : Int => (([argS 108 a, .val false [.i .i64 z], .val false [.i .i64 0]], []) : Snap)) (by rw [he]; simp [wRows]), by omega, by omega, rfl, by simp [wRows]; omega⟩
  rintro n s ⟨i, rfl, h1, h2, h3, h4⟩
  repeat' first
    | (refine And.intro ?_ ?_)
    | (intro h; cases h)
    | (intro h; rw [h])
    | (intro h)
  all_goals first
    | (show lowEdges _ = true; kernel_rfl) | (show logOk _ _ = true; kernel_rfl) | exact True.intro | exact rfl | exact Or.inr rfl | exact Or.inl rfl
    | omega
    | exact of_decide_eq_true ‹_›
    | (have hA := wRows_all h1 h2 ‹_›
       refine resI ?_
       have := szR_ge (l := l) (w := wRow (csD [.sl false 108 a])) (by rw [wRow_sl]; omega)
       rw [this, wRow_sl, hA]; omega)
    | skip
  all_goals
    have hi : i < (a.length : Int) := of_decide_eq_true ‹decide (i < (a.length : Int)) = true›
    have wr : WfRow T [.i .i64, .i .i64, .i .i64, .s, .l 108, .l 9, .l 162] (a.getD i.toNat []) := wa.row rfl (by omega)
    have hnx := wRows_next h1 hi
    have hle := wRows_le a (i + 1).toNat
    have hrow : wRow (a.getD i.toNat []) = wRow (csD (rowC [.i .i64, .i .i64, .i .i64, .s, .l 108, .l 9, .l 162] (a.getD i.toNat []))) := (wRow_rowC wr).symm
    first
      | exact ⟨_, _, wr, by omega, by omega, rfl⟩
      | exact ⟨_, _, wr, Nat.lt_of_lt_of_le (size_row (by omega)) (Nat.le_of_lt_succ hs), by omega, by omega, rfl⟩
      | (refine resI ?_
         have hw := szR_no (‹decide (szR (l - a.length - wRows (a.take i.toNat)) (wRow (csD (rowC [.i .i64, .i .i64, .i .i64, .s, .l 108, .l 9, .l 162] (a.getD i.toNat [])))) < 0) = true›) h4
         have := szR_lt (l := l) (w := wRow (csD [.sl false 108 a])) (by rw [wRow_sl]; omega)
         exact this.symm)
      | (obtain ⟨hw, hv⟩ := szR_yes (‹decide (szR (l - a.length - wRows (a.take i.toNat)) (wRow (csD (rowC [.i .i64, .i .i64, .i .i64, .s, .l 108, .l 9, .l 162] (a.getD i.toNat [])))) < 0) = false›)
         refine ⟨a.length - (i + 1).toNat, by omega, i + 1, ?_, by omega, by omega, rfl, by omega⟩
         have e2 : szR (l - a.length - wRows (a.take i.toNat)) (wRow (csD (rowC [.i .i64, .i .i64, .i .i64, .s, .l 108, .l 9, .l 162] (a.getD i.toNat [])))) = l - a.length - wRows (a.take (i + 1).toNat) := hv.trans (by omega)
         have e3 := wrap_next h1 hi la
         exact (congrArg (fun z : Int => (([argS 108 a, .val false [.i .i64 (szR (l - a.length - wRows (a.take i.toNat)) (wRow (csD (rowC [.i .i64, .i .i64, .i .i64, .s, .l 108, .l 9, .l 162] (a.getD i.toNat [])))))], .val false [.i .i64 z]], []) : Snap)) e3).trans (congrArg (fun z : Int => (([argS 108 a, .val false [.i .i64 z], .val false [.i .i64 (i + 1)]], []) : Snap)) e2))
theorem zero104 : FOk Try.prog T 104 (szGn [.i .i64, .i .i64, .i .i64, .s, .l 108, .l 9, .l 162] 0) := by
  refine fok (env := envL []) (N := 31) tabT envL_nil mixed Try.func104 rfl Try.call104 Try.ntmps104 ?_
  rintro args ⟨a, l, wa, hs, hl0, hl1, rfl⟩ _
  exact absurd hs (Nat.not_lt_zero _)
theorem zero117 : FOk Try.prog T 117 (szSn 108 0) := by
  refine fok (env := envL []) (N := 27) tabT envL_nil mixed Try.func117 rfl Try.call117 Try.ntmps117 ?_
  rintro args ⟨a, l, hs, hl0, hl1, rfl⟩ _
  exact absurd hs (Nat.not_lt_zero _)
theorem both104 (n : Nat) : FOk Try.prog T 104 (szGn [.i .i64, .i .i64, .i .i64, .s, .l 108, .l 9, .l 162] n) ∧ FOk Try.prog T 117 (szSn 108 n) := by
  induction n with
  | zero => exact ⟨zero104, zero117⟩
  | succ n ih => exact ⟨step104 n ih.2, step117 n ih.1⟩
theorem ok104 : FOk Try.prog T 104 (szG [.i .i64, .i .i64, .i .i64, .s, .l 108, .l 9, .l 162]) := FOk.lift (s := fun n => (szGn [.i .i64, .i .i64, .i .i64, .s, .l 108, .l 9, .l 162] n)) (fun n => (both104 n).1) (fun args ⟨a, l, wa, h0, h1, h⟩ => ⟨SizeOf.sizeOf a + 1, a, l, wa, Nat.lt_succ_self _, h0, h1, h⟩) (fun n => rfl)
theorem ok117 : FOk Try.prog T 117 (szS 108) := FOk.lift (s := fun n => (szSn 108 n)) (fun n => (both104 n).2) (fun args ⟨a, l, h0, h1, h⟩ => ⟨SizeOf.sizeOf a + 1, a, l, Nat.lt_succ_self _, h0, h1, h⟩) (fun n => rfl)
/-- laws.szRead -/
theorem ok77 : FOk Try.prog T 77 (szG [.i .i64, .i .i64, .i .i64, .s, .i .i64, .i .i64, .i .i64, .s, .l 108, .l 9, .l 162]) := by
  refine fok (env := envL [(104, (szG [.i .i64, .i .i64, .i .i64, .s, .l 108, .l 9, .l 162]))]) (N := 19) tabT (envL_cons ok104 envL_nil) mixed Try.func77 rfl Try.call77 Try.ntmps77 ?_
  rintro args ⟨a, l, wa, hl0, hl1, rfl⟩ hwf
  refine ⟨by simp, ?_⟩
  clear hwf
  have hs3 := wa.str (j := 3) rfl
  have hs7 := wa.str (j := 7) rfl
  rw [Try.results77]
  repeat' first
    | (refine And.intro ?_ ?_)
    | (intro h; have h2 := szR_no h (by omega); clear h)
    | (intro h; obtain ⟨hw, he⟩ := szR_yes h; (try rw [he]); clear h he)
    | (intro h; have h2 := sub_no h (by omega) (by omega) (by first | exact hs3 | exact hs7); clear h)
    | (intro h; obtain ⟨hw, he⟩ := sub_yes h (by omega) (by omega) (by first | exact hs3 | exact hs7); (try rw [he]); clear h he)
    | (intro h; cases h)
    | (intro h; rw [h])
    | (intro h)
  all_goals first
    | exact Or.inr rfl
    | exact Or.inl rfl
    | exact ⟨_, _, by omega, by omega, rfl⟩
    | exact ⟨_, _, Nat.lt_of_lt_of_le (size_cell (by rw [wa.1]; decide)) (Nat.le_of_lt_succ hs), by omega, by omega, rfl⟩
    | exact ⟨sub a 0 1, _, wa.sub 0 1 (by decide), by omega, by omega, rfl⟩
    | exact ⟨sub a 1 1, _, wa.sub 1 1 (by decide), by omega, by omega, rfl⟩
    | exact ⟨sub a 2 1, _, wa.sub 2 1 (by decide), by omega, by omega, rfl⟩
    | exact ⟨sub a 3 1, _, wa.sub 3 1 (by decide), by omega, by omega, rfl⟩
    | exact ⟨sub a 4 7, _, wa.sub 4 7 (by decide), by omega, by omega, rfl⟩
    | (refine resI ?_; clear wa hs3 hs7; rw [szR_lt]; simp only [csD, CV.d, rowC, ofD, argG, List.zipIdx, List.map, wRow, wD, sub, List.range, List.range.loop, wRow_sl, Nat.reduceAdd, Nat.add_zero, Nat.zero_add] at *; omega)
    | (refine resI ?_; clear wa hs3 hs7; rw [szR_ge] <;> (simp only [csD, CV.d, rowC, ofD, argG, List.zipIdx, List.map, wRow, wD, sub, List.range, List.range.loop, wRow_sl, Nat.reduceAdd, Nat.add_zero, Nat.zero_add] at *; omega))
    | (refine resI ?_; clear wa hs3 hs7; simp only [csD, CV.d, rowC, ofD, argG, List.zipIdx, List.map, wRow, wD, sub, List.range, List.range.loop, wRow_sl, Nat.reduceAdd, Nat.add_zero, Nat.zero_add] at *; simp only [szR]; omega)
    | (show lowEdges _ = true; kernel_rfl) | (show logOk _ _ = true; kernel_rfl) | exact True.intro | exact rfl | exact Or.inr rfl | exact Or.inl rfl
/-- laws.szReadS -/
theorem ok38 : FOk Try.prog T 38 (szS 110) := by
  refine fok (env := envL [(77, (szG [.i .i64, .i .i64, .i .i64, .s, .i .i64, .i .i64, .i .i64, .s, .l 108, .l 9, .l 162]))]) (N := 27) tabT (envL_cons ok77 envL_nil) mixed Try.func38 rfl Try.call38 Try.ntmps38 ?_
  rintro args ⟨a, l, hl0, hl1, rfl⟩ hwf
  have wa : WfD T (.l 110) (.l a) := arg0 hwf (List.mem_singleton_self _)
  clear hwf
  have la := wa.len
  refine ⟨by simp, ?_⟩
  rw [Try.results38]
  repeat' first
    | (refine And.intro ?_ ?_)
    | (intro h; cases h)
    | (intro h; rw [h])
    | (intro h)
  all_goals first
    | (show lowEdges _ = true; kernel_rfl) | (show logOk _ _ = true; kernel_rfl) | exact True.intro | exact rfl | exact Or.inr rfl | exact Or.inl rfl
    | (refine resI ?_; have h := sub_no ‹_› hl0 hl1 la; have := szR_lt (l := l) (w := wRow (csD [.sl false 110 a])) (by rw [wRow_sl]; omega); exact this.symm)
    | skip
  obtain ⟨hb, he⟩ := sub_yes ‹_› hl0 hl1 la
  refine awp_loop (Q := _) [0, 1, 5] [] (fun n s => ∃ i : Int, s = ([argS 110 a, .val false [.i .i64 (l - a.length - wRows (a.take i.toNat))], .val false [.i .i64 i]], []) ∧ 0 ≤ i ∧ i ≤ a.length ∧ n = a.length - i.toNat ∧ 0 ≤ l - a.length - wRows (a.take i.toNat)) ?_ ?_
  · exact ⟨rfl, a.length - 0, 0, congrArg (fun z : Int => (([argS 110 a, .val false [.i .i64 z], .val false [.i .i64 0]], []) : Snap)) (by rw [he]; simp [wRows]), by omega, by omega, rfl, by simp [wRows]; omega⟩
  rintro n s ⟨i, rfl, h1, h2, h3, h4⟩
  repeat' first
    | (refine And.intro ?_ ?_)
    | (intro h; cases h)
    | (intro h; rw [h])
    | (intro h)
  all_goals first
    | (show lowEdges _ = true; kernel_rfl) | (show logOk _ _ = true; kernel_rfl) | exact True.intro | exact rfl | exact Or.inr rfl | exact Or.inl rfl
    | omega
    | exact of_decide_eq_true ‹_›
    | (have hA := wRows_all h1 h2 ‹_›
       refine resI ?_
       have := szR_ge (l := l) (w := wRow (csD [.sl false 110 a])) (by rw [wRow_sl]; omega)
       rw [this, wRow_sl, hA]; omega)
    | skip
  all_goals
    have hi : i < (a.length : Int) := of_decide_eq_true ‹decide (i < (a.length : Int)) = true›
    have wr : WfRow T [.i .i64, .i .i64, .i .i64, .s, .i .i64, .i .i64, .i .i64, .s, .l 108, .l 9, .l 162] (a.getD i.toNat []) := wa.row rfl (by omega)
    have hnx := wRows_next h1 hi
    have hle := wRows_le a (i + 1).toNat
    have hrow : wRow (a.getD i.toNat []) = wRow (csD (rowC [.i .i64, .i .i64, .i .i64, .s, .i .i64, .i .i64, .i .i64, .s, .l 108, .l 9, .l 162] (a.getD i.toNat []))) := (wRow_rowC wr).symm
    first
      | exact ⟨_, _, wr, by omega, by omega, rfl⟩
      | exact ⟨_, _, wr, Nat.lt_of_lt_of_le (size_row (by omega)) (Nat.le_of_lt_succ hs), by omega, by omega, rfl⟩
      | (refine resI ?_
         have hw := szR_no (‹decide (szR (l - a.length - wRows (a.take i.toNat)) (wRow (csD (rowC [.i .i64, .i .i64, .i .i64, .s, .i .i64, .i .i64, .i .i64, .s, .l 108, .l 9, .l 162] (a.getD i.toNat [])))) < 0) = true›) h4
         have := szR_lt (l := l) (w := wRow (csD [.sl false 110 a])) (by rw [wRow_sl]; omega)
         exact this.symm)
      | (obtain ⟨hw, hv⟩ := szR_yes (‹decide (szR (l - a.length - wRows (a.take i.toNat)) (wRow (csD (rowC [.i .i64, .i .i64, .i .i64, .s, .i .i64, .i .i64, .i .i64, .s, .l 108, .l 9, .l 162] (a.getD i.toNat [])))) < 0) = false›)
         refine ⟨a.length - (i + 1).toNat, by omega, i + 1, ?_, by omega, by omega, rfl, by omega⟩
         have e2 : szR (l - a.length - wRows (a.take i.toNat)) (wRow (csD (rowC [.i .i64, .i .i64, .i .i64, .s, .i .i64, .i .i64, .i .i64, .s, .l 108, .l 9, .l 162] (a.getD i.toNat [])))) = l - a.length - wRows (a.take (i + 1).toNat) := hv.trans (by omega)
         have e3 := wrap_next h1 hi la
         exact (congrArg (fun z : Int => (([argS 110 a, .val false [.i .i64 (szR (l - a.length - wRows (a.take i.toNat)) (wRow (csD (rowC [.i .i64, .i .i64, .i .i64, .s, .i .i64, .i .i64, .i .i64, .s, .l 108, .l 9, .l 162] (a.getD i.toNat [])))))], .val false [.i .i64 z]], []) : Snap)) e3).trans (congrArg (fun z : Int => (([argS 110 a, .val false [.i .i64 z], .val false [.i .i64 (i + 1)]], []) : Snap)) e2))
/-- laws.szTape -/
theorem ok17 : FOk Try.prog T 17 (szG [.i .i64, .i .i64, .l 110]) := by
  refine fok (env := envL [(38, (szS 110))]) (N := 12) tabT (envL_cons ok38 envL_nil) mixed Try.func17 rfl Try.call17 Try.ntmps17 ?_
  rintro args ⟨a, l, wa, hl0, hl1, rfl⟩ hwf
  refine ⟨by simp, ?_⟩
  clear hwf
  rw [Try.results17]
  repeat' first
    | (refine And.intro ?_ ?_)
    | (intro h; have h2 := szR_no h (by omega); clear h)
    | (intro h; obtain ⟨hw, he⟩ := szR_yes h; (try rw [he]); clear h he)
    | (intro h; cases h)
    | (intro h; rw [h])
    | (intro h)
  all_goals first
    | exact Or.inr rfl
    | exact Or.inl rfl
    | exact ⟨_, _, by omega, by omega, rfl⟩
    | exact ⟨_, _, Nat.lt_of_lt_of_le (size_cell (by rw [wa.1]; decide)) (Nat.le_of_lt_succ hs), by omega, by omega, rfl⟩
    | exact ⟨sub a 0 1, _, wa.sub 0 1 (by decide), by omega, by omega, rfl⟩
    | exact ⟨sub a 1 1, _, wa.sub 1 1 (by decide), by omega, by omega, rfl⟩
    | exact ⟨sub a 2 1, _, wa.sub 2 1 (by decide), by omega, by omega, rfl⟩
    | (refine resI ?_; clear wa; rw [szR_lt]; simp only [csD, CV.d, rowC, ofD, argG, List.zipIdx, List.map, wRow, wD, sub, List.range, List.range.loop, wRow_sl, Nat.reduceAdd, Nat.add_zero, Nat.zero_add] at *; omega)
    | (refine resI ?_; clear wa; rw [szR_ge] <;> (simp only [csD, CV.d, rowC, ofD, argG, List.zipIdx, List.map, wRow, wD, sub, List.range, List.range.loop, wRow_sl, Nat.reduceAdd, Nat.add_zero, Nat.zero_add] at *; omega))
    | (refine resI ?_; clear wa; simp only [csD, CV.d, rowC, ofD, argG, List.zipIdx, List.map, wRow, wD, sub, List.range, List.range.loop, wRow_sl, Nat.reduceAdd, Nat.add_zero, Nat.zero_add] at *; simp only [szR]; omega)
    | (show lowEdges _ = true; kernel_rfl) | (show logOk _ _ = true; kernel_rfl) | exact True.intro | exact rfl | exact Or.inr rfl | exact Or.inl rfl
/-- laws.szTapeS -/
theorem ok5 : FOk Try.prog T 5 (szS 51) := by
  refine fok (env := envL [(17, (szG [.i .i64, .i .i64, .l 110]))]) (N := 27) tabT (envL_cons ok17 envL_nil) mixed Try.func5 rfl Try.call5 Try.ntmps5 ?_
  rintro args ⟨a, l, hl0, hl1, rfl⟩ hwf
  have wa : WfD T (.l 51) (.l a) := arg0 hwf (List.mem_singleton_self _)
  clear hwf
  have la := wa.len
  refine ⟨by simp, ?_⟩
  rw [Try.results5]
  repeat' first
    | (refine And.intro ?_ ?_)
    | (intro h; cases h)
    | (intro h; rw [h])
    | (intro h)
  all_goals first
    | (show lowEdges _ = true; kernel_rfl) | (show logOk _ _ = true; kernel_rfl) | exact True.intro | exact rfl | exact Or.inr rfl | exact Or.inl rfl
    | (refine resI ?_; have h := sub_no ‹_› hl0 hl1 la; have := szR_lt (l := l) (w := wRow (csD [.sl false 51 a])) (by rw [wRow_sl]; omega); exact this.symm)
    | skip
  obtain ⟨hb, he⟩ := sub_yes ‹_› hl0 hl1 la
  refine awp_loop (Q := _) [0, 1, 5] [] (fun n s => ∃ i : Int, s = ([argS 51 a, .val false [.i .i64 (l - a.length - wRows (a.take i.toNat))], .val false [.i .i64 i]], []) ∧ 0 ≤ i ∧ i ≤ a.length ∧ n = a.length - i.toNat ∧ 0 ≤ l - a.length - wRows (a.take i.toNat)) ?_ ?_
  · exact ⟨rfl, a.length - 0, 0, congrArg (fun z : Int => (([argS 51 a, .val false [.i .i64 z], .val false [.i .i64 0]], []) : Snap)) (by rw [he]; simp [wRows]), by omega, by omega, rfl, by simp [wRows]; omega⟩
  rintro n s ⟨i, rfl, h1, h2, h3, h4⟩
  repeat' first
    | (refine And.intro ?_ ?_)
    | (intro h; cases h)
    | (intro h; rw [h])
    | (intro h)
  all_goals first
    | (show lowEdges _ = true; kernel_rfl) | (show logOk _ _ = true; kernel_rfl) | exact True.intro | exact rfl | exact Or.inr rfl | exact Or.inl rfl
    | omega
    | exact of_decide_eq_true ‹_›
    | (have hA := wRows_all h1 h2 ‹_›
       refine resI ?_
       have := szR_ge (l := l) (w := wRow (csD [.sl false 51 a])) (by rw [wRow_sl]; omega)
       rw [this, wRow_sl, hA]; omega)
    | skip
  all_goals
    have hi : i < (a.length : Int) := of_decide_eq_true ‹decide (i < (a.length : Int)) = true›
    have wr : WfRow T [.i .i64, .i .i64, .l 110] (a.getD i.toNat []) := wa.row rfl (by omega)
    have hnx := wRows_next h1 hi
    have hle := wRows_le a (i + 1).toNat
    have hrow : wRow (a.getD i.toNat []) = wRow (csD (rowC [.i .i64, .i .i64, .l 110] (a.getD i.toNat []))) := (wRow_rowC wr).symm
    first
      | exact ⟨_, _, wr, by omega, by omega, rfl⟩
      | exact ⟨_, _, wr, Nat.lt_of_lt_of_le (size_row (by omega)) (Nat.le_of_lt_succ hs), by omega, by omega, rfl⟩
      | (refine resI ?_
         have hw := szR_no (‹decide (szR (l - a.length - wRows (a.take i.toNat)) (wRow (csD (rowC [.i .i64, .i .i64, .l 110] (a.getD i.toNat [])))) < 0) = true›) h4
         have := szR_lt (l := l) (w := wRow (csD [.sl false 51 a])) (by rw [wRow_sl]; omega)
         exact this.symm)
      | (obtain ⟨hw, hv⟩ := szR_yes (‹decide (szR (l - a.length - wRows (a.take i.toNat)) (wRow (csD (rowC [.i .i64, .i .i64, .l 110] (a.getD i.toNat [])))) < 0) = false›)
         refine ⟨a.length - (i + 1).toNat, by omega, i + 1, ?_, by omega, by omega, rfl, by omega⟩
         have e2 : szR (l - a.length - wRows (a.take i.toNat)) (wRow (csD (rowC [.i .i64, .i .i64, .l 110] (a.getD i.toNat [])))) = l - a.length - wRows (a.take (i + 1).toNat) := hv.trans (by omega)
         have e3 := wrap_next h1 hi la
         exact (congrArg (fun z : Int => (([argS 51 a, .val false [.i .i64 (szR (l - a.length - wRows (a.take i.toNat)) (wRow (csD (rowC [.i .i64, .i .i64, .l 110] (a.getD i.toNat [])))))], .val false [.i .i64 z]], []) : Snap)) e3).trans (congrArg (fun z : Int => (([argS 51 a, .val false [.i .i64 z], .val false [.i .i64 (i + 1)]], []) : Snap)) e2))
end Go.Proofs.Ytidjlboppokloaa.Ab
