/- Measures: printed by a program of this claim. -/
import Derived.Test.YtdmipmbeolglaaaGreatDoorEw
namespace Go.Proofs.YtdmipmbeolglaaaGreatDoor.Ab
open Go.RowKit
set_option linter.unusedVariables false
set_option linter.unusedSimpArgs false
set_option maxRecDepth 100000
set_option maxHeartbeats 1000000
/-- laws.szIntS -/
theorem ok24 : FOk Tryz.prog T 24 (szS 3) := by
  refine fok (env := envL []) (N := 12) tabT envL_nil mixed Tryz.func24 rfl Tryz.call24 Tryz.ntmps24 ?_
  rintro args ⟨a, l, hl0, hl1, rfl⟩ hwf
  have wa : WfD T (.l 3) (.l a) := arg0 hwf (List.mem_singleton_self _)
  clear hwf
  have la := wa.len
  refine ⟨by simp, ?_⟩
  rw [Tryz.results24]
  repeat' first
    | (refine And.intro ?_ ?_)
    | (intro h; cases h)
    | (intro h; rw [h])
    | (intro h)
  all_goals first
    | (show lowEdges _ = true; kernel_rfl) | (show logOk _ _ = true; kernel_rfl) | exact True.intro | exact rfl | exact Or.inr rfl | exact Or.inl rfl
    | (refine resI ?_; have h := sub_no ‹_› hl0 hl1 la; have := szR_lt (l := l) (w := wRow (csD [.sl false 3 a])) (by rw [wRow_sl]; omega); exact this.symm)
    | skip
  have hz : wRows a = 0 := wRows_zero (cts := [.i .i64]) (fun k hk => wa.row rfl hk) (fun r hr => by
    rw [← wRow_rowC hr]
    simp [csD, CV.d, rowC, ofD, argG, List.zipIdx, List.map, wRow, wD, sub, List.range, List.range.loop, Nat.reduceAdd])
  obtain ⟨hb, he⟩ := sub_yes ‹_› hl0 hl1 la
  refine resI (he.trans ?_)
  rw [szR_ge (by rw [wRow_sl, hz]; omega), wRow_sl, hz]
  simp
/-- laws.szCell -/
theorem ok55 : FOk Tryz.prog T 55 (szG [.i .i64, .i .i64, .i .i64, .s, .s, .i .i64]) := by
  refine fok (env := envL []) (N := 20) tabT envL_nil mixed Tryz.func55 rfl Tryz.call55 Tryz.ntmps55 ?_
  rintro args ⟨a, l, wa, hl0, hl1, rfl⟩ hwf
  refine ⟨by simp, ?_⟩
  clear hwf
  have hs3 := wa.str (j := 3) rfl
  have hs4 := wa.str (j := 4) rfl
  rw [Tryz.results55]
  repeat' first
    | (refine And.intro ?_ ?_)
    | (intro h; have h2 := szR_no h (by omega); clear h)
    | (intro h; obtain ⟨hw, he⟩ := szR_yes h; (try rw [he]); clear h he)
    | (intro h; have h2 := sub_no h (by omega) (by omega) (by first | exact hs3 | exact hs4); clear h)
    | (intro h; obtain ⟨hw, he⟩ := sub_yes h (by omega) (by omega) (by first | exact hs3 | exact hs4); (try rw [he]); clear h he)
    | (intro h; cases h)
    | (intro h; rw [h])
    | (intro h)
  all_goals first
    | exact Or.inr rfl
    | exact Or.inl rfl
    | exact ⟨_, _, by omega, by omega, rfl⟩
    | exact ⟨_, _, Nat.lt_of_lt_of_le (size_cell (by rw [wa.1]; decide)) (Nat.le_of_lt_succ hs), by omega, by omega, rfl⟩
    | exact ⟨sub a 0 1, _, wa.sub 0 1 (by decide), by omega, by omega, rfl⟩
    | exact ⟨sub a 1 1, _, wa.sub 1 1 (by decide), by omega, by omega, rfl⟩
    | exact ⟨sub a 2 1, _, wa.sub 2 1 (by decide), by omega, by omega, rfl⟩
    | exact ⟨sub a 3 1, _, wa.sub 3 1 (by decide), by omega, by omega, rfl⟩
    | exact ⟨sub a 4 1, _, wa.sub 4 1 (by decide), by omega, by omega, rfl⟩
    | exact ⟨sub a 5 1, _, wa.sub 5 1 (by decide), by omega, by omega, rfl⟩
    | (refine resI ?_; clear wa hs3 hs4; rw [szR_lt]; simp only [csD, CV.d, rowC, ofD, argG, List.zipIdx, List.map, wRow, wD, sub, List.range, List.range.loop, wRow_sl, Nat.reduceAdd, Nat.add_zero, Nat.zero_add] at *; omega)
    | (refine resI ?_; clear wa hs3 hs4; rw [szR_ge] <;> (simp only [csD, CV.d, rowC, ofD, argG, List.zipIdx, List.map, wRow, wD, sub, List.range, List.range.loop, wRow_sl, Nat.reduceAdd, Nat.add_zero, Nat.zero_add] at *; omega))
    | (refine resI ?_; clear wa hs3 hs4; simp only [csD, CV.d, rowC, ofD, argG, List.zipIdx, List.map, wRow, wD, sub, List.range, List.range.loop, wRow_sl, Nat.reduceAdd, Nat.add_zero, Nat.zero_add] at *; simp only [szR]; omega)
    | (show lowEdges _ = true; kernel_rfl) | (show logOk _ _ = true; kernel_rfl) | exact True.intro | exact rfl | exact Or.inr rfl | exact Or.inl rfl
/-- laws.szEdit -/
theorem ok25 : FOk Tryz.prog T 25 (szG [.i .i64, .i .i64, .i .i64, .i .i64, .i .i64, .s, .s, .i .i64]) := by
  refine fok (env := envL [(55, (szG [.i .i64, .i .i64, .i .i64, .s, .s, .i .i64]))]) (N := 12) tabT (envL_cons ok55 envL_nil) mixed Tryz.func25 rfl Tryz.call25 Tryz.ntmps25 ?_
  rintro args ⟨a, l, wa, hl0, hl1, rfl⟩ hwf
  refine ⟨by simp, ?_⟩
  clear hwf
  have hs5 := wa.str (j := 5) rfl
  have hs6 := wa.str (j := 6) rfl
  rw [Tryz.results25]
  repeat' first
    | (refine And.intro ?_ ?_)
    | (intro h; have h2 := szR_no h (by omega); clear h)
    | (intro h; obtain ⟨hw, he⟩ := szR_yes h; (try rw [he]); clear h he)
    | (intro h; have h2 := sub_no h (by omega) (by omega) (by first | exact hs5 | exact hs6); clear h)
    | (intro h; obtain ⟨hw, he⟩ := sub_yes h (by omega) (by omega) (by first | exact hs5 | exact hs6); (try rw [he]); clear h he)
    | (intro h; cases h)
    | (intro h; rw [h])
    | (intro h)
  all_goals first
    | exact Or.inr rfl
    | exact Or.inl rfl
    | exact ⟨_, _, by omega, by omega, rfl⟩
    | exact ⟨_, _, Nat.lt_of_lt_of_le (size_cell (by rw [wa.1]; decide)) (Nat.le_of_lt_succ hs), by omega, by omega, rfl⟩
    | exact ⟨sub a 0 1, _, wa.sub 0 1 (by decide), by omega, by omega, rfl⟩
    | exact ⟨sub a 1 1, _, wa.sub 1 1 (by decide), by omega, by omega, rfl⟩
    | exact ⟨sub a 2 6, _, wa.sub 2 6 (by decide), by omega, by omega, rfl⟩
    | (refine resI ?_; clear wa hs5 hs6; rw [szR_lt]; simp only [csD, CV.d, rowC, ofD, argG, List.zipIdx, List.map, wRow, wD, sub, List.range, List.range.loop, wRow_sl, Nat.reduceAdd, Nat.add_zero, Nat.zero_add] at *; omega)
    | (refine resI ?_; clear wa hs5 hs6; rw [szR_ge] <;> (simp only [csD, CV.d, rowC, ofD, argG, List.zipIdx, List.map, wRow, wD, sub, List.range, List.range.loop, wRow_sl, Nat.reduceAdd, Nat.add_zero, Nat.zero_add] at *; omega))
    | (refine resI ?_; clear wa hs5 hs6; simp only [csD, CV.d, rowC, ofD, argG, List.zipIdx, List.map, wRow, wD, sub, List.range, List.range.loop, wRow_sl, Nat.reduceAdd, Nat.add_zero, Nat.zero_add] at *; simp only [szR]; omega)
    | (show lowEdges _ = true; kernel_rfl) | (show logOk _ _ = true; kernel_rfl) | exact True.intro | exact rfl | exact Or.inr rfl | exact Or.inl rfl
/-- laws.szStringS -/
theorem ok93 : FOk Tryz.prog T 93 (szS 9) := by
  refine fok (env := envL []) (N := 28) tabT envL_nil mixed Tryz.func93 rfl Tryz.call93 Tryz.ntmps93 ?_
  rintro args ⟨a, l, hl0, hl1, rfl⟩ hwf
  have wa : WfD T (.l 9) (.l a) := arg0 hwf (List.mem_singleton_self _)
  clear hwf
  have la := wa.len
  refine ⟨by simp, ?_⟩
  rw [Tryz.results93]
  repeat' first
    | (refine And.intro ?_ ?_)
    | (intro h; cases h)
    | (intro h; rw [h])
    | (intro h)
  all_goals first
    | (show lowEdges _ = true; kernel_rfl) | (show logOk _ _ = true; kernel_rfl) | exact True.intro | exact rfl | exact Or.inr rfl | exact Or.inl rfl
    | (refine resI ?_; have h := sub_no ‹_› hl0 hl1 la; have := szR_lt (l := l) (w := wRow (csD [.sl false 9 a])) (by rw [wRow_sl]; omega); exact this.symm)
    | skip
  obtain ⟨hb, he⟩ := sub_yes ‹_› hl0 hl1 la
  refine awp_loop (Q := _) [0, 1, 5] [] (fun n s => ∃ i : Int, s = ([argS 9 a, .val false [.i .i64 (l - a.length - wRows (a.take i.toNat))], .val false [.i .i64 i]], []) ∧ 0 ≤ i ∧ i ≤ a.length ∧ n = a.length - i.toNat ∧ 0 ≤ l - a.length - wRows (a.take i.toNat)) ?_ ?_
  · exact ⟨rfl, a.length - 0, 0, congrArg (fun z : Int => (([argS 9 a, .val false [.i .i64 z], .val false [.i .i64 0]], []) : Snap)) (by rw [he]; simp [wRows]), by omega, by omega, rfl, by simp [wRows]; omega⟩
  rintro n s ⟨i, rfl, h1, h2, h3, h4⟩
  repeat' first
    | (refine And.intro ?_ ?_)
    | (intro h; cases h)
    | (intro h; rw [h])
    | (intro h)
  all_goals first
    | (show lowEdges _ = true; kernel_rfl) | (show logOk _ _ = true; kernel_rfl) | exact True.intro | exact rfl | exact Or.inr rfl | exact Or.inl rfl
    | omega
    | exact of_decide_eq_true ‹_›
    | (have hA := wRows_all h1 h2 ‹_›
       refine resI ?_
       have := szR_ge (l := l) (w := wRow (csD [.sl false 9 a])) (by rw [wRow_sl]; omega)
       rw [this, wRow_sl, hA]; omega)
    | skip
  all_goals
    have hi : i < (a.length : Int) := of_decide_eq_true ‹decide (i < (a.length : Int)) = true›
    have wr : WfRow T [.s] (a.getD i.toNat []) := wa.row rfl (by omega)
    have hnx := wRows_next h1 hi
    have hle := wRows_le a (i + 1).toNat
    have hstr := wr.str (j := 0) rfl
    have hrow : wRow (a.getD i.toNat []) = ((a.getD i.toNat []).getD 0 default).str.size := by
      rw [← wRow_rowC wr]
      simp [csD, CV.d, rowC, ofD, argG, List.zipIdx, List.map, wRow, wD, sub, List.range, List.range.loop, Nat.reduceAdd]
    first
      | exact ⟨_, _, wr, by omega, by omega, rfl⟩
      | exact ⟨_, _, wr, Nat.lt_of_lt_of_le (size_row (by omega)) (Nat.le_of_lt_succ hs), by omega, by omega, rfl⟩
      | (refine resI ?_
         have hw := sub_no (‹decide (IntKind.i64.wrap ((l - a.length - wRows (a.take i.toNat)) - ((a.getD i.toNat []).getD 0 default).str.size) < 0) = true›) h4 (by omega) hstr
         have := szR_lt (l := l) (w := wRow (csD [.sl false 9 a])) (by rw [wRow_sl]; omega)
         exact this.symm)
      | (obtain ⟨hw, hv⟩ := sub_yes (‹decide (IntKind.i64.wrap ((l - a.length - wRows (a.take i.toNat)) - ((a.getD i.toNat []).getD 0 default).str.size) < 0) = false›) h4 (by omega) hstr
         refine ⟨a.length - (i + 1).toNat, by omega, i + 1, ?_, by omega, by omega, rfl, by omega⟩
         have e2 : IntKind.i64.wrap ((l - a.length - wRows (a.take i.toNat)) - ((a.getD i.toNat []).getD 0 default).str.size) = l - a.length - wRows (a.take (i + 1).toNat) := hv.trans (by omega)
         have e3 := wrap_next h1 hi la
         exact (congrArg (fun z : Int => (([argS 9 a, .val false [.i .i64 (IntKind.i64.wrap ((l - a.length - wRows (a.take i.toNat)) - ((a.getD i.toNat []).getD 0 default).str.size))], .val false [.i .i64 z]], []) : Snap)) e3).trans (congrArg (fun z : Int => (([argS 9 a, .val false [.i .i64 z], .val false [.i .i64 (i + 1)]], []) : Snap)) e2))
/-- laws.szOriginS -/
theorem ok129 : FOk Tryz.prog T 129 (szS 178) := by
  refine fok (env := envL []) (N := 12) tabT envL_nil mixed Tryz.func129 rfl Tryz.call129 Tryz.ntmps129 ?_
  rintro args ⟨a, l, hl0, hl1, rfl⟩ hwf
  have wa : WfD T (.l 178) (.l a) := arg0 hwf (List.mem_singleton_self _)
  clear hwf
  have la := wa.len
  refine ⟨by simp, ?_⟩
  rw [Tryz.results129]
  repeat' first
    | (refine And.intro ?_ ?_)
    | (intro h; cases h)
    | (intro h; rw [h])
    | (intro h)
  all_goals first
    | (show lowEdges _ = true; kernel_rfl) | (show logOk _ _ = true; kernel_rfl) | exact True.intro | exact rfl | exact Or.inr rfl | exact Or.inl rfl
    | (refine resI ?_; have h := sub_no ‹_› hl0 hl1 la; have := szR_lt (l := l) (w := wRow (csD [.sl false 178 a])) (by rw [wRow_sl]; omega); exact this.symm)
    | skip
  have hz : wRows a = 0 := wRows_zero (cts := [.i .i64, .i .i64]) (fun k hk => wa.row rfl hk) (fun r hr => by
    rw [← wRow_rowC hr]
    simp [csD, CV.d, rowC, ofD, argG, List.zipIdx, List.map, wRow, wD, sub, List.range, List.range.loop, Nat.reduceAdd])
  obtain ⟨hb, he⟩ := sub_yes ‹_› hl0 hl1 la
  refine resI (he.trans ?_)
  rw [szR_ge (by rw [wRow_sl, hz]; omega), wRow_sl, hz]
  simp
/-- laws.szRow -/
theorem ok113 : FOk Tryz.prog T 113 (szG [.l 3, .l 178]) := by
  refine fok (env := envL [(24, (szS 3)), (129, (szS 178))]) (N := 18) tabT (envL_cons ok24 (envL_cons ok129 envL_nil)) mixed Tryz.func113 rfl Tryz.call113 Tryz.ntmps113 ?_
  rintro args ⟨a, l, wa, hl0, hl1, rfl⟩ hwf
  refine ⟨by simp, ?_⟩
  clear hwf
  rw [Tryz.results113]
  repeat' first
    | (refine And.intro ?_ ?_)
    | (intro h; have h2 := szR_no h (by omega); clear h)
    | (intro h; obtain ⟨hw, he⟩ := szR_yes h; (try rw [he]); clear h he)
    | (intro h; cases h)
    | (intro h; rw [h])
    | (intro h)
  all_goals first
    | exact Or.inr rfl
    | exact Or.inl rfl
    | exact ⟨_, _, by omega, by omega, rfl⟩
    | exact ⟨_, _, Nat.lt_of_lt_of_le (size_cell (by rw [wa.1]; decide)) (Nat.le_of_lt_succ hs), by omega, by omega, rfl⟩
    | exact ⟨sub a 0 1, _, wa.sub 0 1 (by decide), by omega, by omega, rfl⟩
    | exact ⟨sub a 1 1, _, wa.sub 1 1 (by decide), by omega, by omega, rfl⟩
    | (refine resI ?_; clear wa; rw [szR_lt]; simp only [csD, CV.d, rowC, ofD, argG, List.zipIdx, List.map, wRow, wD, sub, List.range, List.range.loop, wRow_sl, Nat.reduceAdd, Nat.add_zero, Nat.zero_add] at *; omega)
    | (refine resI ?_; clear wa; rw [szR_ge] <;> (simp only [csD, CV.d, rowC, ofD, argG, List.zipIdx, List.map, wRow, wD, sub, List.range, List.range.loop, wRow_sl, Nat.reduceAdd, Nat.add_zero, Nat.zero_add] at *; omega))
    | (refine resI ?_; clear wa; simp only [csD, CV.d, rowC, ofD, argG, List.zipIdx, List.map, wRow, wD, sub, List.range, List.range.loop, wRow_sl, Nat.reduceAdd, Nat.add_zero, Nat.zero_add] at *; simp only [szR]; omega)
    | (show lowEdges _ = true; kernel_rfl) | (show logOk _ _ = true; kernel_rfl) | exact True.intro | exact rfl | exact Or.inr rfl | exact Or.inl rfl
/-- laws.szRowS -/
theorem ok94 : FOk Tryz.prog T 94 (szS 155) := by
  refine fok (env := envL [(113, (szG [.l 3, .l 178]))]) (N := 27) tabT (envL_cons ok113 envL_nil) mixed Tryz.func94 rfl Tryz.call94 Tryz.ntmps94 ?_
  rintro args ⟨a, l, hl0, hl1, rfl⟩ hwf
  have wa : WfD T (.l 155) (.l a) := arg0 hwf (List.mem_singleton_self _)
  clear hwf
  have la := wa.len
  refine ⟨by simp, ?_⟩
  rw [Tryz.results94]
  repeat' first
    | (refine And.intro ?_ ?_)
    | (intro h; cases h)
    | (intro h; rw [h])
    | (intro h)
  all_goals first
    | (show lowEdges _ = true; kernel_rfl) | (show logOk _ _ = true; kernel_rfl) | exact True.intro | exact rfl | exact Or.inr rfl | exact Or.inl rfl
    | (refine resI ?_; have h := sub_no ‹_› hl0 hl1 la; have := szR_lt (l := l) (w := wRow (csD [.sl false 155 a])) (by rw [wRow_sl]; omega); exact this.symm)
    | skip
  obtain ⟨hb, he⟩ := sub_yes ‹_› hl0 hl1 la
  refine awp_loop (Q := _) [0, 1, 5] [] (fun n s => ∃ i : Int, s = ([argS 155 a, .val false [.i .i64 (l - a.length - wRows (a.take i.toNat))], .val false [.i .i64 i]], []) ∧ 0 ≤ i ∧ i ≤ a.length ∧ n = a.length - i.toNat ∧ 0 ≤ l - a.length - wRows (a.take i.toNat)) ?_ ?_
  · exact ⟨rfl, a.length - 0, 0, congrArg (fun z : Int => (([argS 155 a, .val false [.i .i64 z], .val false [.i .i64 0]], []) : Snap)) (by rw [he]; simp [wRows]), by omega, by omega, rfl, by simp [wRows]; omega⟩
  rintro n s ⟨i, rfl, h1, h2, h3, h4⟩
  repeat' first
    | (refine And.intro ?_ ?_)
    | (intro h; cases h)
    | (intro h; rw [h])
    | (intro h)
  all_goals first
    | (show lowEdges _ = true; kernel_rfl) | (show logOk _ _ = true; kernel_rfl) | exact True.intro | exact rfl | exact Or.inr rfl | exact Or.inl rfl
    | omega
    | exact of_decide_eq_true ‹_›
    | (have hA := wRows_all h1 h2 ‹_›
       refine resI ?_
       have := szR_ge (l := l) (w := wRow (csD [.sl false 155 a])) (by rw [wRow_sl]; omega)
       rw [this, wRow_sl, hA]; omega)
    | skip
  all_goals
    have hi : i < (a.length : Int) := of_decide_eq_true ‹decide (i < (a.length : Int)) = true›
    have wr : WfRow T [.l 3, .l 178] (a.getD i.toNat []) := wa.row rfl (by omega)
    have hnx := wRows_next h1 hi
    have hle := wRows_le a (i + 1).toNat
    have hrow : wRow (a.getD i.toNat []) = wRow (csD (rowC [.l 3, .l 178] (a.getD i.toNat []))) := (wRow_rowC wr).symm
    first
      | exact ⟨_, _, wr, by omega, by omega, rfl⟩
      | exact ⟨_, _, wr, Nat.lt_of_lt_of_le (size_row (by omega)) (Nat.le_of_lt_succ hs), by omega, by omega, rfl⟩
      | (refine resI ?_
         have hw := szR_no (‹decide (szR (l - a.length - wRows (a.take i.toNat)) (wRow (csD (rowC [.l 3, .l 178] (a.getD i.toNat [])))) < 0) = true›) h4
         have := szR_lt (l := l) (w := wRow (csD [.sl false 155 a])) (by rw [wRow_sl]; omega)
         exact this.symm)
      | (obtain ⟨hw, hv⟩ := szR_yes (‹decide (szR (l - a.length - wRows (a.take i.toNat)) (wRow (csD (rowC [.l 3, .l 178] (a.getD i.toNat [])))) < 0) = false›)
         refine ⟨a.length - (i + 1).toNat, by omega, i + 1, ?_, by omega, by omega, rfl, by omega⟩
         have e2 : szR (l - a.length - wRows (a.take i.toNat)) (wRow (csD (rowC [.l 3, .l 178] (a.getD i.toNat [])))) = l - a.length - wRows (a.take (i + 1).toNat) := hv.trans (by omega)
         have e3 := wrap_next h1 hi la
         exact (congrArg (fun z : Int => (([argS 155 a, .val false [.i .i64 (szR (l - a.length - wRows (a.take i.toNat)) (wRow (csD (rowC [.l 3, .l 178] (a.getD i.toNat [])))))], .val false [.i .i64 z]], []) : Snap)) e3).trans (congrArg (fun z : Int => (([argS 155 a, .val false [.i .i64 z], .val false [.i .i64 (i + 1)]], []) : Snap)) e2))
/-- laws.szValue -/
theorem step76 (n : Nat) (hn : FOk Tryz.prog T 92 (szSn 100 n)) : FOk Tryz.prog T 76 (szGn [.i .i64, .i .i64, .i .i64, .s, .l 100, .l 9, .l 155] (n + 1)) := by
  refine fok (env := envL [(92, (szSn 100 n)), (93, (szS 9)), (94, (szS 155))]) (N := 31) tabT (envL_cons hn (envL_cons ok93 (envL_cons ok94 envL_nil))) mixed Tryz.func76 rfl Tryz.call76 Tryz.ntmps76 ?_
  rintro args ⟨a, l, wa, hs, hl0, hl1, rfl⟩ hwf
  refine ⟨by simp, ?_⟩
  clear hwf
  have hs3 := wa.str (j := 3) rfl
  rw [Tryz.results76]
  repeat' first
    | (refine And.intro ?_ ?_)
    | (intro h; have h2 := szR_no h (by omega); clear h)
    | (intro h; obtain ⟨hw, he⟩ := szR_yes h; (try rw [he]); clear h he)
    | (intro h; have h2 := sub_no h (by omega) (by omega) (by first | exact hs3); clear h)
    | (intro h; obtain ⟨hw, he⟩ := sub_yes h (by omega) (by omega) (by first | exact hs3); (try rw [he]); clear h he)
    | (intro h; cases h)
    | (intro h; rw [h])
    | (intro h)
  all_goals first
    | exact Or.inr rfl
    | exact Or.inl rfl
    | exact ⟨_, _, by omega, by omega, rfl⟩
    | exact ⟨_, _, Nat.lt_of_lt_of_le (size_cell (by rw [wa.1]; decide)) (Nat.le_of_lt_succ hs), by omega, by omega, rfl⟩
    | exact ⟨sub a 0 1, _, wa.sub 0 1 (by decide), by omega, by omega, rfl⟩
    | exact ⟨sub a 1 1, _, wa.sub 1 1 (by decide), by omega, by omega, rfl⟩
    | exact ⟨sub a 2 1, _, wa.sub 2 1 (by decide), by omega, by omega, rfl⟩
    | exact ⟨sub a 3 1, _, wa.sub 3 1 (by decide), by omega, by omega, rfl⟩
    | exact ⟨sub a 4 1, _, wa.sub 4 1 (by decide), by omega, by omega, rfl⟩
    | exact ⟨sub a 5 1, _, wa.sub 5 1 (by decide), by omega, by omega, rfl⟩
    | exact ⟨sub a 6 1, _, wa.sub 6 1 (by decide), by omega, by omega, rfl⟩
    | (refine resI ?_; clear wa hs3; rw [szR_lt]; simp only [csD, CV.d, rowC, ofD, argG, List.zipIdx, List.map, wRow, wD, sub, List.range, List.range.loop, wRow_sl, Nat.reduceAdd, Nat.add_zero, Nat.zero_add] at *; omega)
    | (refine resI ?_; clear wa hs3; rw [szR_ge] <;> (simp only [csD, CV.d, rowC, ofD, argG, List.zipIdx, List.map, wRow, wD, sub, List.range, List.range.loop, wRow_sl, Nat.reduceAdd, Nat.add_zero, Nat.zero_add] at *; omega))
    | (refine resI ?_; clear wa hs3; simp only [csD, CV.d, rowC, ofD, argG, List.zipIdx, List.map, wRow, wD, sub, List.range, List.range.loop, wRow_sl, Nat.reduceAdd, Nat.add_zero, Nat.zero_add] at *; simp only [szR]; omega)
    | (show lowEdges _ = true; kernel_rfl) | (show logOk _ _ = true; kernel_rfl) | exact True.intro | exact rfl | exact Or.inr rfl | exact Or.inl rfl
/-- laws.szValueS -/
theorem step92 (n : Nat) (hn : FOk Tryz.prog T 76 (szGn [.i .i64, .i .i64, .i .i64, .s, .l 100, .l 9, .l 155] n)) : FOk Tryz.prog T 92 (szSn 100 (n + 1)) := by
  refine fok (env := envL [(76, (szGn [.i .i64, .i .i64, .i .i64, .s, .l 100, .l 9, .l 155] n))]) (N := 27) tabT (envL_cons hn envL_nil) mixed Tryz.func92 rfl Tryz.call92 Tryz.ntmps92 ?_
  rintro args ⟨a, l, hs, hl0, hl1, rfl⟩ hwf
  have wa : WfD T (.l 100) (.l a) := arg0 hwf (List.mem_singleton_self _)
  clear hwf
  have la := wa.len
  refine ⟨by simp, ?_⟩
  rw [Tryz.results92]
  repeat' first
    | (refine And.intro ?_ ?_)
    | (intro h; cases h)
    | (intro h; rw [h])
    | (intro h)
  all_goals first
    | (show lowEdges _ = true; kernel_rfl) | (show logOk _ _ = true; kernel_rfl) | exact True.intro | exact rfl | exact Or.inr rfl | exact Or.inl rfl
    | (refine resI ?_; have h := sub_no ‹_› hl0 hl1 la; have := szR_lt (l := l) (w := wRow (csD [.sl false 100 a])) (by rw [wRow_sl]; omega); exact this.symm)
    | skip
  obtain ⟨hb, he⟩ := sub_yes ‹_› hl0 hl1 la
  refine awp_loop (Q := _) [0, 1, 5] [] (fun n s => ∃ i : Int, s = ([argS 100 a, .val false [.i .i64 (l - a.length - wRows (a.take i.toNat))], .val false [.i .i64 i]], []) ∧ 0 ≤ i ∧ i ≤ a.length ∧ n = a.length - i.toNat ∧ 0 ≤ l - a.length - wRows (a.take i.toNat)) ?_ ?_
  · exact ⟨rfl, a.length - 0, 0, congrArg (fun z : Int => (([argS 100 a, .val false [.i .i64 z], .val false [.i .i64 0]], []) : Snap)) (by rw [he]; simp [wRows]), by omega, by omega, rfl, by simp [wRows]; omega⟩
  rintro n s ⟨i, rfl, h1, h2, h3, h4⟩
  repeat' first
    | (refine And.intro ?_ ?_)
    | (intro h; cases h)
    | (intro h; rw [h])
    | (intro h)
  all_goals first
    | (show lowEdges _ = true; kernel_rfl) | (show logOk _ _ = true; kernel_rfl) | exact True.intro | exact rfl | exact Or.inr rfl | exact Or.inl rfl
    | omega
    | exact of_decide_eq_true ‹_›
    | (have hA := wRows_all h1 h2 ‹_›
       refine resI ?_
       have := szR_ge (l := l) (w := wRow (csD [.sl false 100 a])) (by rw [wRow_sl]; omega)
       rw [this, wRow_sl, hA]; omega)
    | skip
  all_goals
    have hi : i < (a.length : Int) := of_decide_eq_true ‹decide (i < (a.length : Int)) = true›
    have wr : WfRow T [.i .i64, .i .i64, .i .i64, .s, .l 100, .l 9, .l 155] (a.getD i.toNat []) := wa.row rfl (by omega)
    have hnx := wRows_next h1 hi
    have hle := wRows_le a (i + 1).toNat
    have hrow : wRow (a.getD i.toNat []) = wRow (csD (rowC [.i .i64, .i .i64, .i .i64, .s, .l 100, .l 9, .l 155] (a.getD i.toNat []))) := (wRow_rowC wr).symm
    first
      | exact ⟨_, _, wr, by omega, by omega, rfl⟩
      | exact ⟨_, _, wr, Nat.lt_of_lt_of_le (size_row (by omega)) (Nat.le_of_lt_succ hs), by omega, by omega, rfl⟩
      | (refine resI ?_
         have hw := szR_no (‹decide (szR (l - a.length - wRows (a.take i.toNat)) (wRow (csD (rowC [.i .i64, .i .i64, .i .i64, .s, .l 100, .l 9, .l 155] (a.getD i.toNat [])))) < 0) = true›) h4
         have := szR_lt (l := l) (w := wRow (csD [.sl false 100 a])) (by rw [wRow_sl]; omega)
         exact this.symm)
      | (obtain ⟨hw, hv⟩ := szR_yes (‹decide (szR (l - a.length - wRows (a.take i.toNat)) (wRow (csD (rowC [.i .i64, .i .i64, .i .i64, .s, .l 100, .l 9, .l 155] (a.getD i.toNat [])))) < 0) = false›)
         refine ⟨a.length - (i + 1).toNat, by omega, i + 1, ?_, by omega, by omega, rfl, by omega⟩
         have e2 : szR (l - a.length - wRows (a.take i.toNat)) (wRow (csD (rowC [.i .i64, .i .i64, .i .i64, .s, .l 100, .l 9, .l 155] (a.getD i.toNat [])))) = l - a.length - wRows (a.take (i + 1).toNat) := hv.trans (by omega)
         have e3 := wrap_next h1 hi la
         exact (congrArg (fun z : Int => (([argS 100 a, .val false [.i .i64 (szR (l - a.length - wRows (a.take i.toNat)) (wRow (csD (rowC [.i .i64, .i .i64, .i .i64, .s, .l 100, .l 9, .l 155] (a.getD i.toNat [])))))], .val false [.i .i64 z]], []) : Snap)) e3).trans (congrArg (fun z : Int => (([argS 100 a, .val false [.i .i64 z], .val false [.i .i64 (i + 1)]], []) : Snap)) e2))
theorem zero76 : FOk Tryz.prog T 76 (szGn [.i .i64, .i .i64, .i .i64, .s, .l 100, .l 9, .l 155] 0) := by
  refine fok (env := envL []) (N := 31) tabT envL_nil mixed Tryz.func76 rfl Tryz.call76 Tryz.ntmps76 ?_
  rintro args ⟨a, l, wa, hs, hl0, hl1, rfl⟩ _
  exact absurd hs (Nat.not_lt_zero _)
theorem zero92 : FOk Tryz.prog T 92 (szSn 100 0) := by
  refine fok (env := envL []) (N := 27) tabT envL_nil mixed Tryz.func92 rfl Tryz.call92 Tryz.ntmps92 ?_
  rintro args ⟨a, l, hs, hl0, hl1, rfl⟩ _
  exact absurd hs (Nat.not_lt_zero _)
theorem both76 (n : Nat) : FOk Tryz.prog T 76 (szGn [.i .i64, .i .i64, .i .i64, .s, .l 100, .l 9, .l 155] n) ∧ FOk Tryz.prog T 92 (szSn 100 n) := by
  induction n with
  | zero => exact ⟨zero76, zero92⟩
  | succ n ih => exact ⟨step76 n ih.2, step92 n ih.1⟩
theorem ok76 : FOk Tryz.prog T 76 (szG [.i .i64, .i .i64, .i .i64, .s, .l 100, .l 9, .l 155]) := FOk.lift (s := fun n => (szGn [.i .i64, .i .i64, .i .i64, .s, .l 100, .l 9, .l 155] n)) (fun n => (both76 n).1) (fun args ⟨a, l, wa, h0, h1, h⟩ => ⟨SizeOf.sizeOf a + 1, a, l, wa, Nat.lt_succ_self _, h0, h1, h⟩) (fun n => rfl)
theorem ok92 : FOk Tryz.prog T 92 (szS 100) := FOk.lift (s := fun n => (szSn 100 n)) (fun n => (both76 n).2) (fun args ⟨a, l, h0, h1, h⟩ => ⟨SizeOf.sizeOf a + 1, a, l, Nat.lt_succ_self _, h0, h1, h⟩) (fun n => rfl)
/-- laws.szRead -/
theorem ok56 : FOk Tryz.prog T 56 (szG [.i .i64, .i .i64, .i .i64, .s, .i .i64, .i .i64, .i .i64, .s, .l 100, .l 9, .l 155]) := by
  refine fok (env := envL [(76, (szG [.i .i64, .i .i64, .i .i64, .s, .l 100, .l 9, .l 155]))]) (N := 19) tabT (envL_cons ok76 envL_nil) mixed Tryz.func56 rfl Tryz.call56 Tryz.ntmps56 ?_
  rintro args ⟨a, l, wa, hl0, hl1, rfl⟩ hwf
  refine ⟨by simp, ?_⟩
  clear hwf
  have hs3 := wa.str (j := 3) rfl
  have hs7 := wa.str (j := 7) rfl
  rw [Tryz.results56]
  repeat' first
    | (refine And.intro ?_ ?_)
    | (intro h; have h2 := szR_no h (by omega); clear h)
    | (intro h; obtain ⟨hw, he⟩ := szR_yes h; (try rw [he]); clear h he)
    | (intro h; have h2 := sub_no h (by omega) (by omega) (by first | exact hs3 | exact hs7); clear h)
    | (intro h; obtain ⟨hw, he⟩ := sub_yes h (by omega) (by omega) (by first | exact hs3 | exact hs7); (try rw [he]); clear h he)
    | (intro h; cases h)
    | (intro h; rw [h])
    | (intro h)
  all_goals first
    | exact Or.inr rfl
    | exact Or.inl rfl
    | exact ⟨_, _, by omega, by omega, rfl⟩
    | exact ⟨_, _, Nat.lt_of_lt_of_le (size_cell (by rw [wa.1]; decide)) (Nat.le_of_lt_succ hs), by omega, by omega, rfl⟩
    | exact ⟨sub a 0 1, _, wa.sub 0 1 (by decide), by omega, by omega, rfl⟩
    | exact ⟨sub a 1 1, _, wa.sub 1 1 (by decide), by omega, by omega, rfl⟩
    | exact ⟨sub a 2 1, _, wa.sub 2 1 (by decide), by omega, by omega, rfl⟩
    | exact ⟨sub a 3 1, _, wa.sub 3 1 (by decide), by omega, by omega, rfl⟩
    | exact ⟨sub a 4 7, _, wa.sub 4 7 (by decide), by omega, by omega, rfl⟩
    | (refine resI ?_; clear wa hs3 hs7; rw [szR_lt]; simp only [csD, CV.d, rowC, ofD, argG, List.zipIdx, List.map, wRow, wD, sub, List.range, List.range.loop, wRow_sl, Nat.reduceAdd, Nat.add_zero, Nat.zero_add] at *; omega)
    | (refine resI ?_; clear wa hs3 hs7; rw [szR_ge] <;> (simp only [csD, CV.d, rowC, ofD, argG, List.zipIdx, List.map, wRow, wD, sub, List.range, List.range.loop, wRow_sl, Nat.reduceAdd, Nat.add_zero, Nat.zero_add] at *; omega))
    | (refine resI ?_; clear wa hs3 hs7; simp only [csD, CV.d, rowC, ofD, argG, List.zipIdx, List.map, wRow, wD, sub, List.range, List.range.loop, wRow_sl, Nat.reduceAdd, Nat.add_zero, Nat.zero_add] at *; simp only [szR]; omega)
    | (show lowEdges _ = true; kernel_rfl) | (show logOk _ _ = true; kernel_rfl) | exact True.intro | exact rfl | exact Or.inr rfl | exact Or.inl rfl
/-- laws.szReadS -/
theorem ok26 : FOk Tryz.prog T 26 (szS 102) := by
  refine fok (env := envL [(56, (szG [.i .i64, .i .i64, .i .i64, .s, .i .i64, .i .i64, .i .i64, .s, .l 100, .l 9, .l 155]))]) (N := 27) tabT (envL_cons ok56 envL_nil) mixed Tryz.func26 rfl Tryz.call26 Tryz.ntmps26 ?_
  rintro args ⟨a, l, hl0, hl1, rfl⟩ hwf
  have wa : WfD T (.l 102) (.l a) := arg0 hwf (List.mem_singleton_self _)
  clear hwf
  have la := wa.len
  refine ⟨by simp, ?_⟩
  rw [Tryz.results26]
  repeat' first
    | (refine And.intro ?_ ?_)
    | (intro h; cases h)
    | (intro h; rw [h])
    | (intro h)
  all_goals first
    | (show lowEdges _ = true; kernel_rfl) | (show logOk _ _ = true; kernel_rfl) | exact True.intro | exact rfl | exact Or.inr rfl | exact Or.inl rfl
    | (refine resI ?_; have h := sub_no ‹_› hl0 hl1 la; have := szR_lt (l := l) (w := wRow (csD [.sl false 102 a])) (by rw [wRow_sl]; omega); exact this.symm)
    | skip
  obtain ⟨hb, he⟩ := sub_yes ‹_› hl0 hl1 la
  refine awp_loop (Q := _) [0, 1, 5] [] (fun n s => ∃ i : Int, s = ([argS 102 a, .val false [.i .i64 (l - a.length - wRows (a.take i.toNat))], .val false [.i .i64 i]], []) ∧ 0 ≤ i ∧ i ≤ a.length ∧ n = a.length - i.toNat ∧ 0 ≤ l - a.length - wRows (a.take i.toNat)) ?_ ?_
  · exact ⟨rfl, a.length - 0, 0, congrArg (fun z : Int => (([argS 102 a, .val false [.i .i64 z], .val false [.i .i64 0]], []) : Snap)) (by rw [he]; simp [wRows]), by omega, by omega, rfl, by simp [wRows]; omega⟩
  rintro n s ⟨i, rfl, h1, h2, h3, h4⟩
  repeat' first
    | (refine And.intro ?_ ?_)
    | (intro h; cases h)
    | (intro h; rw [h])
    | (intro h)
  all_goals first
    | (show lowEdges _ = true; kernel_rfl) | (show logOk _ _ = true; kernel_rfl) | exact True.intro | exact rfl | exact Or.inr rfl | exact Or.inl rfl
    | omega
    | exact of_decide_eq_true ‹_›
    | (have hA := wRows_all h1 h2 ‹_›
       refine resI ?_
       have := szR_ge (l := l) (w := wRow (csD [.sl false 102 a])) (by rw [wRow_sl]; omega)
       rw [this, wRow_sl, hA]; omega)
    | skip
  all_goals
    have hi : i < (a.length : Int) := of_decide_eq_true ‹decide (i < (a.length : Int)) = true›
    have wr : WfRow T [.i .i64, .i .i64, .i .i64, .s, .i .i64, .i .i64, .i .i64, .s, .l 100, .l 9, .l 155] (a.getD i.toNat []) := wa.row rfl (by omega)
    have hnx := wRows_next h1 hi
    have hle := wRows_le a (i + 1).toNat
    have hrow : wRow (a.getD i.toNat []) = wRow (csD (rowC [.i .i64, .i .i64, .i .i64, .s, .i .i64, .i .i64, .i .i64, .s, .l 100, .l 9, .l 155] (a.getD i.toNat []))) := (wRow_rowC wr).symm
    first
      | exact ⟨_, _, wr, by omega, by omega, rfl⟩
      | exact ⟨_, _, wr, Nat.lt_of_lt_of_le (size_row (by omega)) (Nat.le_of_lt_succ hs), by omega, by omega, rfl⟩
      | (refine resI ?_
         have hw := szR_no (‹decide (szR (l - a.length - wRows (a.take i.toNat)) (wRow (csD (rowC [.i .i64, .i .i64, .i .i64, .s, .i .i64, .i .i64, .i .i64, .s, .l 100, .l 9, .l 155] (a.getD i.toNat [])))) < 0) = true›) h4
         have := szR_lt (l := l) (w := wRow (csD [.sl false 102 a])) (by rw [wRow_sl]; omega)
         exact this.symm)
      | (obtain ⟨hw, hv⟩ := szR_yes (‹decide (szR (l - a.length - wRows (a.take i.toNat)) (wRow (csD (rowC [.i .i64, .i .i64, .i .i64, .s, .i .i64, .i .i64, .i .i64, .s, .l 100, .l 9, .l 155] (a.getD i.toNat [])))) < 0) = false›)
         refine ⟨a.length - (i + 1).toNat, by omega, i + 1, ?_, by omega, by omega, rfl, by omega⟩
         have e2 : szR (l - a.length - wRows (a.take i.toNat)) (wRow (csD (rowC [.i .i64, .i .i64, .i .i64, .s, .i .i64, .i .i64, .i .i64, .s, .l 100, .l 9, .l 155] (a.getD i.toNat [])))) = l - a.length - wRows (a.take (i + 1).toNat) := hv.trans (by omega)
         have e3 := wrap_next h1 hi la
         exact (congrArg (fun z : Int => (([argS 102 a, .val false [.i .i64 (szR (l - a.length - wRows (a.take i.toNat)) (wRow (csD (rowC [.i .i64, .i .i64, .i .i64, .s, .i .i64, .i .i64, .i .i64, .s, .l 100, .l 9, .l 155] (a.getD i.toNat [])))))], .val false [.i .i64 z]], []) : Snap)) e3).trans (congrArg (fun z : Int => (([argS 102 a, .val false [.i .i64 z], .val false [.i .i64 (i + 1)]], []) : Snap)) e2))
/-- laws.szOp -/
theorem ok7 : FOk Tryz.prog T 7 (szG [.i .i64, .i .i64, .i .i64, .l 3, .i .i64, .i .i64, .i .i64, .i .i64, .i .i64, .s, .s, .i .i64, .s, .s, .i .i64, .i .i64, .l 102]) := by
  refine fok (env := envL [(24, (szS 3)), (25, (szG [.i .i64, .i .i64, .i .i64, .i .i64, .i .i64, .s, .s, .i .i64])), (26, (szS 102))]) (N := 38) tabT (envL_cons ok24 (envL_cons ok25 (envL_cons ok26 envL_nil))) mixed Tryz.func7 rfl Tryz.call7 Tryz.ntmps7 ?_
  rintro args ⟨a, l, wa, hl0, hl1, rfl⟩ hwf
  refine ⟨by simp, ?_⟩
  clear hwf
  have hs9 := wa.str (j := 9) rfl
  have hs10 := wa.str (j := 10) rfl
  have hs12 := wa.str (j := 12) rfl
  have hs13 := wa.str (j := 13) rfl
  rw [Tryz.results7]
  repeat' first
    | (refine And.intro ?_ ?_)
    | (intro h; have h2 := szR_no h (by omega); clear h)
    | (intro h; obtain ⟨hw, he⟩ := szR_yes h; (try rw [he]); clear h he)
    | (intro h; have h2 := sub_no h (by omega) (by omega) (by first | exact hs9 | exact hs10 | exact hs12 | exact hs13); clear h)
    | (intro h; obtain ⟨hw, he⟩ := sub_yes h (by omega) (by omega) (by first | exact hs9 | exact hs10 | exact hs12 | exact hs13); (try rw [he]); clear h he)
    | (intro h; cases h)
    | (intro h; rw [h])
    | (intro h)
  all_goals first
    | exact Or.inr rfl
    | exact Or.inl rfl
    | exact ⟨_, _, by omega, by omega, rfl⟩
    | exact ⟨_, _, Nat.lt_of_lt_of_le (size_cell (by rw [wa.1]; decide)) (Nat.le_of_lt_succ hs), by omega, by omega, rfl⟩
    | exact ⟨sub a 0 1, _, wa.sub 0 1 (by decide), by omega, by omega, rfl⟩
    | exact ⟨sub a 1 1, _, wa.sub 1 1 (by decide), by omega, by omega, rfl⟩
    | exact ⟨sub a 2 1, _, wa.sub 2 1 (by decide), by omega, by omega, rfl⟩
    | exact ⟨sub a 3 1, _, wa.sub 3 1 (by decide), by omega, by omega, rfl⟩
    | exact ⟨sub a 4 8, _, wa.sub 4 8 (by decide), by omega, by omega, rfl⟩
    | exact ⟨sub a 12 1, _, wa.sub 12 1 (by decide), by omega, by omega, rfl⟩
    | exact ⟨sub a 13 1, _, wa.sub 13 1 (by decide), by omega, by omega, rfl⟩
    | exact ⟨sub a 14 1, _, wa.sub 14 1 (by decide), by omega, by omega, rfl⟩
    | exact ⟨sub a 15 1, _, wa.sub 15 1 (by decide), by omega, by omega, rfl⟩
    | exact ⟨sub a 16 1, _, wa.sub 16 1 (by decide), by omega, by omega, rfl⟩
    | (refine resI ?_; clear wa hs9 hs10 hs12 hs13; rw [szR_lt]; simp only [csD, CV.d, rowC, ofD, argG, List.zipIdx, List.map, wRow, wD, sub, List.range, List.range.loop, wRow_sl, Nat.reduceAdd, Nat.add_zero, Nat.zero_add] at *; omega)
    | (refine resI ?_; clear wa hs9 hs10 hs12 hs13; rw [szR_ge] <;> (simp only [csD, CV.d, rowC, ofD, argG, List.zipIdx, List.map, wRow, wD, sub, List.range, List.range.loop, wRow_sl, Nat.reduceAdd, Nat.add_zero, Nat.zero_add] at *; omega))
    | (refine resI ?_; clear wa hs9 hs10 hs12 hs13; simp only [csD, CV.d, rowC, ofD, argG, List.zipIdx, List.map, wRow, wD, sub, List.range, List.range.loop, wRow_sl, Nat.reduceAdd, Nat.add_zero, Nat.zero_add] at *; simp only [szR]; omega)
    | (show lowEdges _ = true; kernel_rfl) | (show logOk _ _ = true; kernel_rfl) | exact True.intro | exact rfl | exact Or.inr rfl | exact Or.inl rfl
/-- laws.szStore -/
theorem ok14 : FOk Tryz.prog T 14 (szG [.s, .i .i64]) := by
  refine fok (env := envL []) (N := 13) tabT envL_nil mixed Tryz.func14 rfl Tryz.call14 Tryz.ntmps14 ?_
  rintro args ⟨a, l, wa, hl0, hl1, rfl⟩ hwf
  refine ⟨by simp, ?_⟩
  clear hwf
  have hs0 := wa.str (j := 0) rfl
  rw [Tryz.results14]
  repeat' first
    | (refine And.intro ?_ ?_)
    | (intro h; have h2 := szR_no h (by omega); clear h)
    | (intro h; obtain ⟨hw, he⟩ := szR_yes h; (try rw [he]); clear h he)
    | (intro h; have h2 := sub_no h (by omega) (by omega) (by first | exact hs0); clear h)
    | (intro h; obtain ⟨hw, he⟩ := sub_yes h (by omega) (by omega) (by first | exact hs0); (try rw [he]); clear h he)
    | (intro h; cases h)
    | (intro h; rw [h])
    | (intro h)
  all_goals first
    | exact Or.inr rfl
    | exact Or.inl rfl
    | exact ⟨_, _, by omega, by omega, rfl⟩
    | exact ⟨_, _, Nat.lt_of_lt_of_le (size_cell (by rw [wa.1]; decide)) (Nat.le_of_lt_succ hs), by omega, by omega, rfl⟩
    | exact ⟨sub a 0 1, _, wa.sub 0 1 (by decide), by omega, by omega, rfl⟩
    | exact ⟨sub a 1 1, _, wa.sub 1 1 (by decide), by omega, by omega, rfl⟩
    | (refine resI ?_; clear wa hs0; rw [szR_lt]; simp only [csD, CV.d, rowC, ofD, argG, List.zipIdx, List.map, wRow, wD, sub, List.range, List.range.loop, wRow_sl, Nat.reduceAdd, Nat.add_zero, Nat.zero_add] at *; omega)
    | (refine resI ?_; clear wa hs0; rw [szR_ge] <;> (simp only [csD, CV.d, rowC, ofD, argG, List.zipIdx, List.map, wRow, wD, sub, List.range, List.range.loop, wRow_sl, Nat.reduceAdd, Nat.add_zero, Nat.zero_add] at *; omega))
    | (refine resI ?_; clear wa hs0; simp only [csD, CV.d, rowC, ofD, argG, List.zipIdx, List.map, wRow, wD, sub, List.range, List.range.loop, wRow_sl, Nat.reduceAdd, Nat.add_zero, Nat.zero_add] at *; simp only [szR]; omega)
    | (show lowEdges _ = true; kernel_rfl) | (show logOk _ _ = true; kernel_rfl) | exact True.intro | exact rfl | exact Or.inr rfl | exact Or.inl rfl
/-- laws.szOpS -/
theorem ok50 : FOk Tryz.prog T 50 (szS 29) := by
  refine fok (env := envL [(7, (szG [.i .i64, .i .i64, .i .i64, .l 3, .i .i64, .i .i64, .i .i64, .i .i64, .i .i64, .s, .s, .i .i64, .s, .s, .i .i64, .i .i64, .l 102]))]) (N := 27) tabT (envL_cons ok7 envL_nil) mixed Tryz.func50 rfl Tryz.call50 Tryz.ntmps50 ?_
  rintro args ⟨a, l, hl0, hl1, rfl⟩ hwf
  have wa : WfD T (.l 29) (.l a) := arg0 hwf (List.mem_singleton_self _)
  clear hwf
  have la := wa.len
  refine ⟨by simp, ?_⟩
  rw [Tryz.results50]
  repeat' first
    | (refine And.intro ?_ ?_)
    | (intro h; cases h)
    | (intro h; rw [h])
    | (intro h)
  all_goals first
    | (show lowEdges _ = true; kernel_rfl) | (show logOk _ _ = true; kernel_rfl) | exact True.intro | exact rfl | exact Or.inr rfl | exact Or.inl rfl
    | (refine resI ?_; have h := sub_no ‹_› hl0 hl1 la; have := szR_lt (l := l) (w := wRow (csD [.sl false 29 a])) (by rw [wRow_sl]; omega); exact this.symm)
    | skip
  obtain ⟨hb, he⟩ := sub_yes ‹_› hl0 hl1 la
  refine awp_loop (Q := _) [0, 1, 5] [] (fun n s => ∃ i : Int, s = ([argS 29 a, .val false [.i .i64 (l - a.length - wRows (a.take i.toNat))], .val false [.i .i64 i]], []) ∧ 0 ≤ i ∧ i ≤ a.length ∧ n = a.length - i.toNat ∧ 0 ≤ l - a.length - wRows (a.take i.toNat)) ?_ ?_
  · exact ⟨rfl, a.length - 0, 0, congrArg (fun z : Int => (([argS 29 a, .val false [.i .i64 z], .val false [.i .i64 0]], []) : Snap)) (by rw [he]; simp [wRows]), by omega, by omega, rfl, by simp [wRows]; omega⟩
  rintro n s ⟨i, rfl, h1, h2, h3, h4⟩
  repeat' first
    | (refine And.intro ?_ ?_)
    | (intro h; cases h)
    | (intro h; rw [h])
    | (intro h)
  all_goals first
    | (show lowEdges _ = true; kernel_rfl) | (show logOk _ _ = true; kernel_rfl) | exact True.intro | exact rfl | exact Or.inr rfl | exact Or.inl rfl
    | omega
    | exact of_decide_eq_true ‹_›
    | (have hA := wRows_all h1 h2 ‹_›
       refine resI ?_
       have := szR_ge (l := l) (w := wRow (csD [.sl false 29 a])) (by rw [wRow_sl]; omega)
       rw [this, wRow_sl, hA]; omega)
    | skip
  all_goals
    have hi : i < (a.length : Int) := of_decide_eq_true ‹decide (i < (a.length : Int)) = true›
    have wr : WfRow T [.i .i64, .i .i64, .i .i64, .l 3, .i .i64, .i .i64, .i .i64, .i .i64, .i .i64, .s, .s, .i .i64, .s, .s, .i .i64, .i .i64, .l 102] (a.getD i.toNat []) := wa.row rfl (by omega)
    have hnx := wRows_next h1 hi
    have hle := wRows_le a (i + 1).toNat
    have hrow : wRow (a.getD i.toNat []) = wRow (csD (rowC [.i .i64, .i .i64, .i .i64, .l 3, .i .i64, .i .i64, .i .i64, .i .i64, .i .i64, .s, .s, .i .i64, .s, .s, .i .i64, .i .i64, .l 102] (a.getD i.toNat []))) := (wRow_rowC wr).symm
    first
      | exact ⟨_, _, wr, by omega, by omega, rfl⟩
      | exact ⟨_, _, wr, Nat.lt_of_lt_of_le (size_row (by omega)) (Nat.le_of_lt_succ hs), by omega, by omega, rfl⟩
      | (refine resI ?_
         have hw := szR_no (‹decide (szR (l - a.length - wRows (a.take i.toNat)) (wRow (csD (rowC [.i .i64, .i .i64, .i .i64, .l 3, .i .i64, .i .i64, .i .i64, .i .i64, .i .i64, .s, .s, .i .i64, .s, .s, .i .i64, .i .i64, .l 102] (a.getD i.toNat [])))) < 0) = true›) h4
         have := szR_lt (l := l) (w := wRow (csD [.sl false 29 a])) (by rw [wRow_sl]; omega)
         exact this.symm)
      | (obtain ⟨hw, hv⟩ := szR_yes (‹decide (szR (l - a.length - wRows (a.take i.toNat)) (wRow (csD (rowC [.i .i64, .i .i64, .i .i64, .l 3, .i .i64, .i .i64, .i .i64, .i .i64, .i .i64, .s, .s, .i .i64, .s, .s, .i .i64, .i .i64, .l 102] (a.getD i.toNat [])))) < 0) = false›)
         refine ⟨a.length - (i + 1).toNat, by omega, i + 1, ?_, by omega, by omega, rfl, by omega⟩
         have e2 : szR (l - a.length - wRows (a.take i.toNat)) (wRow (csD (rowC [.i .i64, .i .i64, .i .i64, .l 3, .i .i64, .i .i64, .i .i64, .i .i64, .i .i64, .s, .s, .i .i64, .s, .s, .i .i64, .i .i64, .l 102] (a.getD i.toNat [])))) = l - a.length - wRows (a.take (i + 1).toNat) := hv.trans (by omega)
         have e3 := wrap_next h1 hi la
         exact (congrArg (fun z : Int => (([argS 29 a, .val false [.i .i64 (szR (l - a.length - wRows (a.take i.toNat)) (wRow (csD (rowC [.i .i64, .i .i64, .i .i64, .l 3, .i .i64, .i .i64, .i .i64, .i .i64, .i .i64, .s, .s, .i .i64, .s, .s, .i .i64, .i .i64, .l 102] (a.getD i.toNat [])))))], .val false [.i .i64 z]], []) : Snap)) e3).trans (congrArg (fun z : Int => (([argS 29 a, .val false [.i .i64 z], .val false [.i .i64 (i + 1)]], []) : Snap)) e2))
/-- laws.szReplica -/
theorem ok19 : FOk Tryz.prog T 19 (szG [.i .i64, .l 29]) := by
  refine fok (env := envL [(50, (szS 29))]) (N := 12) tabT (envL_cons ok50 envL_nil) mixed Tryz.func19 rfl Tryz.call19 Tryz.ntmps19 ?_
  rintro args ⟨a, l, wa, hl0, hl1, rfl⟩ hwf
  refine ⟨by simp, ?_⟩
  clear hwf
  rw [Tryz.results19]
  repeat' first
    | (refine And.intro ?_ ?_)
    | (intro h; have h2 := szR_no h (by omega); clear h)
    | (intro h; obtain ⟨hw, he⟩ := szR_yes h; (try rw [he]); clear h he)
    | (intro h; cases h)
    | (intro h; rw [h])
    | (intro h)
  all_goals first
    | exact Or.inr rfl
    | exact Or.inl rfl
    | exact ⟨_, _, by omega, by omega, rfl⟩
    | exact ⟨_, _, Nat.lt_of_lt_of_le (size_cell (by rw [wa.1]; decide)) (Nat.le_of_lt_succ hs), by omega, by omega, rfl⟩
    | exact ⟨sub a 0 1, _, wa.sub 0 1 (by decide), by omega, by omega, rfl⟩
    | exact ⟨sub a 1 1, _, wa.sub 1 1 (by decide), by omega, by omega, rfl⟩
    | (refine resI ?_; clear wa; rw [szR_lt]; simp only [csD, CV.d, rowC, ofD, argG, List.zipIdx, List.map, wRow, wD, sub, List.range, List.range.loop, wRow_sl, Nat.reduceAdd, Nat.add_zero, Nat.zero_add] at *; omega)
    | (refine resI ?_; clear wa; rw [szR_ge] <;> (simp only [csD, CV.d, rowC, ofD, argG, List.zipIdx, List.map, wRow, wD, sub, List.range, List.range.loop, wRow_sl, Nat.reduceAdd, Nat.add_zero, Nat.zero_add] at *; omega))
    | (refine resI ?_; clear wa; simp only [csD, CV.d, rowC, ofD, argG, List.zipIdx, List.map, wRow, wD, sub, List.range, List.range.loop, wRow_sl, Nat.reduceAdd, Nat.add_zero, Nat.zero_add] at *; simp only [szR]; omega)
    | (show lowEdges _ = true; kernel_rfl) | (show logOk _ _ = true; kernel_rfl) | exact True.intro | exact rfl | exact Or.inr rfl | exact Or.inl rfl
end Go.Proofs.YtdmipmbeolglaaaGreatDoor.Ab
