/- Comparisons of the program: printed by a program of this claim. -/
import Derived.Test.YtijnlnmoellbaaaGreatEg
namespace Go.Proofs.YtijnlnmoellbaaaGreat.Ab
open Go.RowKit
set_option linter.unusedVariables false
set_option linter.unusedSimpArgs false
set_option maxRecDepth 100000
set_option maxHeartbeats 1000000
/-- spec.l41Same -/
theorem ok94 : FOk Tryz.prog T 94 (eqS 185) := by
  refine fok (env := envL [(130, (eqP [.i .i64, .i .i64, .i .i64, .s, .i .i64, .i .i64, .i .i64, .s, .l 103, .l 9, .l 189] 4)), (53, (eqG [.i .i64, .i .i64, .i .i64, .s, .l 103, .l 9, .l 189]))]) (N := 41) tabT (envL_cons ok130 (envL_cons ok53 envL_nil)) mixed Tryz.func94 rfl Tryz.call94 Tryz.ntmps94 ?_
  rintro args ⟨a, b, rfl⟩ hwf
  refine ⟨by simp, ?_⟩
  have wa : WfD T (.l 185) (.l a) := arg0 hwf (List.mem_singleton_self _)
  have wb : WfD T (.l 185) (.l b) := arg1 hwf (List.mem_singleton_self _)
  clear hwf
  have wA0 := wa
  have wB0 := wb
  have lA0 := wa.len
  rw [Tryz.results94]
  repeat' first
    | (refine And.intro ?_ ?_)
    | (intro h; cases h)
    | (intro h; rw [h])
    | (intro h)
  all_goals first
    | (show lowEdges _ = true; kernel_rfl) | (show logOk _ _ = true; kernel_rfl) | trivial | exact Or.inr rfl | exact Or.inl rfl
    | exact ⟨_, _, rfl⟩
    | exact res_no (ne_len ‹_›)
    | (refine res_no ?_; rintro rfl; simp_all [eqDs, eqD, str_inj]; done)
    | (refine res_yes ?_; simp_all [eqDs, eqD, str_inj, csD, CV.d, rowC, ofD, argG, sub, List.zipIdx, List.range, List.range.loop]; done)
    | (refine res_iff ?_; simp_all [eqDs, eqD, str_inj, csD, CV.d, rowC, ofD, argG, sub, List.zipIdx, List.range, List.range.loop]; done)
    | skip
  have hl0 : a.length = b.length := eq_len ‹_›
  refine awp_loop (Q := _) [0, 1, 5] [] (fun n s => ∃ i : Int, s = ([argS 185 a, argS 185 b, .val false [.i .i64 i]], []) ∧ 0 ≤ i ∧ i ≤ a.length ∧ n = a.length - i.toNat ∧ a.take i.toNat = b.take i.toNat) ?_ ?_
  · exact ⟨rfl, a.length - 0, _, rfl, by omega, by omega, rfl, rfl⟩
  rintro n0 s ⟨i0, rfl, h10, h20, h30, h40⟩
  repeat' first
    | (refine And.intro ?_ ?_)
    | (intro h; cases h)
    | (intro h; rw [h])
    | (intro h)
  all_goals first
    | (show lowEdges _ = true; kernel_rfl) | (show logOk _ _ = true; kernel_rfl) | trivial | exact Or.inr rfl | exact Or.inl rfl
    | omega
    | exact of_decide_eq_true ‹_›
    | exact hl0 ▸ of_decide_eq_true ‹decide (i0 < (a.length : Int)) = true›
    | exact ⟨_, _, rfl⟩
    | exact res_yes (eq_of_takes hl0 h10 h20 ‹_› h40)
    | (have hi : i0 < (a.length : Int) := of_decide_eq_true ‹decide (i0 < (a.length : Int)) = true›
       have wra0 : WfRow T [.i .i64, .i .i64, .i .i64, .s, .i .i64, .i .i64, .i .i64, .s, .l 103, .l 9, .l 189] (a.getD i0.toNat []) := wA0.row rfl (by omega)
       have wrb0 : WfRow T [.i .i64, .i .i64, .i .i64, .s, .i .i64, .i .i64, .i .i64, .s, .l 103, .l 9, .l 189] (b.getD i0.toNat []) := wB0.row rfl (by omega)
       first
         | exact ⟨_, _, wra0, wrb0, rfl⟩
         | exact ⟨sub (a.getD i0.toNat []) 4 7, sub (b.getD i0.toNat []) 4 7, wra0.sub 4 7 (by decide), wrb0.sub 4 7 (by decide), rfl⟩
         | exact ⟨_, _, wra0, wrb0, Nat.lt_of_lt_of_le (Nat.lt_trans (size_row (by omega)) (size_cell (by rw [wa.1]; decide))) (Nat.le_of_lt_succ hs), rfl⟩
         | (refine res_no ?_; rintro rfl; simp_all [eqDs, eqD, str_inj]; done)
         | (refine ⟨a.length - (i0 + 1).toNat, by omega, i0 + 1, ?_, by omega, by omega, rfl, takes_next h10 hi hl0 h40 (row_eq wra0 wrb0 ?_)⟩
            · exact congrArg (fun z : Int => (([argS 185 a, argS 185 b, .val false [.i .i64 z]], []) : Snap)) (wrap_next h10 hi lA0)
            · simp_all [eqDs, eqD, str_inj, csD, CV.d, rowC, ofD, argG, sub, List.zipIdx, List.range, List.range.loop]))
/-- impl.equalReads -/
theorem ok103 : FOk Tryz.prog T 103 (eqS 185) := by
  refine fok (env := envL [(141, (eqP [.i .i64, .i .i64, .i .i64, .s, .i .i64, .i .i64, .i .i64, .s, .l 103, .l 9, .l 189] 4)), (61, (eqG [.i .i64, .i .i64, .i .i64, .s, .l 103, .l 9, .l 189]))]) (N := 41) tabT (envL_cons ok141 (envL_cons ok61 envL_nil)) mixed Tryz.func103 rfl Tryz.call103 Tryz.ntmps103 ?_
  rintro args ⟨a, b, rfl⟩ hwf
  refine ⟨by simp, ?_⟩
  have wa : WfD T (.l 185) (.l a) := arg0 hwf (List.mem_singleton_self _)
  have wb : WfD T (.l 185) (.l b) := arg1 hwf (List.mem_singleton_self _)
  clear hwf
  have wA0 := wa
  have wB0 := wb
  have lA0 := wa.len
  rw [Tryz.results103]
  repeat' first
    | (refine And.intro ?_ ?_)
    | (intro h; cases h)
    | (intro h; rw [h])
    | (intro h)
  all_goals first
    | (show lowEdges _ = true; kernel_rfl) | (show logOk _ _ = true; kernel_rfl) | trivial | exact Or.inr rfl | exact Or.inl rfl
    | exact ⟨_, _, rfl⟩
    | exact res_no (ne_len ‹_›)
    | (refine res_no ?_; rintro rfl; simp_all [eqDs, eqD, str_inj]; done)
    | (refine res_yes ?_; simp_all [eqDs, eqD, str_inj, csD, CV.d, rowC, ofD, argG, sub, List.zipIdx, List.range, List.range.loop]; done)
    | (refine res_iff ?_; simp_all [eqDs, eqD, str_inj, csD, CV.d, rowC, ofD, argG, sub, List.zipIdx, List.range, List.range.loop]; done)
    | skip
  have hl0 : a.length = b.length := eq_len ‹_›
  refine awp_loop (Q := _) [0, 1, 12, 13] [] (fun n s => ∃ i : Int, s = ([argS 185 a, argS 185 b, .val false [.i .i64 (a).length], .val false [.i .i64 i]], []) ∧ 0 ≤ i ∧ i ≤ a.length ∧ n = a.length - i.toNat ∧ a.take i.toNat = b.take i.toNat) ?_ ?_
  · exact ⟨rfl, a.length - 0, _, rfl, by omega, by omega, rfl, rfl⟩
  rintro n0 s ⟨i0, rfl, h10, h20, h30, h40⟩
  repeat' first
    | (refine And.intro ?_ ?_)
    | (intro h; cases h)
    | (intro h; rw [h])
    | (intro h)
  all_goals first
    | (show lowEdges _ = true; kernel_rfl) | (show logOk _ _ = true; kernel_rfl) | trivial | exact Or.inr rfl | exact Or.inl rfl
    | omega
    | exact of_decide_eq_true ‹_›
    | exact hl0 ▸ of_decide_eq_true ‹decide (i0 < (a.length : Int)) = true›
    | exact ⟨_, _, rfl⟩
    | exact res_yes (eq_of_takes hl0 h10 h20 ‹_› h40)
    | (have hi : i0 < (a.length : Int) := of_decide_eq_true ‹decide (i0 < (a.length : Int)) = true›
       have wra0 : WfRow T [.i .i64, .i .i64, .i .i64, .s, .i .i64, .i .i64, .i .i64, .s, .l 103, .l 9, .l 189] (a.getD i0.toNat []) := wA0.row rfl (by omega)
       have wrb0 : WfRow T [.i .i64, .i .i64, .i .i64, .s, .i .i64, .i .i64, .i .i64, .s, .l 103, .l 9, .l 189] (b.getD i0.toNat []) := wB0.row rfl (by omega)
       first
         | exact ⟨_, _, wra0, wrb0, rfl⟩
         | exact ⟨sub (a.getD i0.toNat []) 4 7, sub (b.getD i0.toNat []) 4 7, wra0.sub 4 7 (by decide), wrb0.sub 4 7 (by decide), rfl⟩
         | exact ⟨_, _, wra0, wrb0, Nat.lt_of_lt_of_le (Nat.lt_trans (size_row (by omega)) (size_cell (by rw [wa.1]; decide))) (Nat.le_of_lt_succ hs), rfl⟩
         | (refine res_no ?_; rintro rfl; simp_all [eqDs, eqD, str_inj]; done)
         | (refine ⟨a.length - (i0 + 1).toNat, by omega, i0 + 1, ?_, by omega, by omega, rfl, takes_next h10 hi hl0 h40 (row_eq wra0 wrb0 ?_)⟩
            · exact congrArg (fun z : Int => (([argS 185 a, argS 185 b, .val false [.i .i64 (a).length], .val false [.i .i64 z]], []) : Snap)) (wrap_next h10 hi lA0)
            · simp_all [eqDs, eqD, str_inj, csD, CV.d, rowC, ofD, argG, sub, List.zipIdx, List.range, List.range.loop]))
/-- spec.l42Tapes -/
theorem ok51 : FOk Tryz.prog T 51 (eqS 153) := by
  refine fok (env := envL [(94, (eqS 185))]) (N := 55) tabT (envL_cons ok94 envL_nil) mixed Tryz.func51 rfl Tryz.call51 Tryz.ntmps51 ?_
  rintro args ⟨a, b, rfl⟩ hwf
  refine ⟨by simp, ?_⟩
  have wa : WfD T (.l 153) (.l a) := arg0 hwf (List.mem_singleton_self _)
  have wb : WfD T (.l 153) (.l b) := arg1 hwf (List.mem_singleton_self _)
  clear hwf
  have wA0 := wa
  have wB0 := wb
  have lA0 := wa.len
  rw [Tryz.results51]
  repeat' first
    | (refine And.intro ?_ ?_)
    | (intro h; cases h)
    | (intro h; rw [h])
    | (intro h)
  all_goals first
    | (show lowEdges _ = true; kernel_rfl) | (show logOk _ _ = true; kernel_rfl) | trivial | exact Or.inr rfl | exact Or.inl rfl
    | exact ⟨_, _, rfl⟩
    | exact res_no (ne_len ‹_›)
    | (refine res_no ?_; rintro rfl; simp_all [eqDs, eqD, str_inj]; done)
    | (refine res_yes ?_; simp_all [eqDs, eqD, str_inj, csD, CV.d, rowC, ofD, argG, sub, List.zipIdx, List.range, List.range.loop]; done)
    | (refine res_iff ?_; simp_all [eqDs, eqD, str_inj, csD, CV.d, rowC, ofD, argG, sub, List.zipIdx, List.range, List.range.loop]; done)
    | skip
  have hl0 : a.length = b.length := eq_len ‹_›
  refine awp_loop (Q := _) [0, 1, 5] [] (fun n s => ∃ i : Int, s = ([argS 153 a, argS 153 b, .val false [.i .i64 i]], []) ∧ 0 ≤ i ∧ i ≤ a.length ∧ n = a.length - i.toNat ∧ a.take i.toNat = b.take i.toNat) ?_ ?_
  · exact ⟨rfl, a.length - 0, _, rfl, by omega, by omega, rfl, rfl⟩
  rintro n0 s ⟨i0, rfl, h10, h20, h30, h40⟩
  repeat' first
    | (refine And.intro ?_ ?_)
    | (intro h; cases h)
    | (intro h; rw [h])
    | (intro h)
  all_goals first
    | (show lowEdges _ = true; kernel_rfl) | (show logOk _ _ = true; kernel_rfl) | trivial | exact Or.inr rfl | exact Or.inl rfl
    | omega
    | exact of_decide_eq_true ‹_›
    | exact hl0 ▸ of_decide_eq_true ‹decide (i0 < (a.length : Int)) = true›
    | exact ⟨_, _, rfl⟩
    | exact res_yes (eq_of_takes hl0 h10 h20 ‹_› h40)
    | (have hi : i0 < (a.length : Int) := of_decide_eq_true ‹decide (i0 < (a.length : Int)) = true›
       have wra0 : WfRow T [.i .i64, .i .i64, .l 185] (a.getD i0.toNat []) := wA0.row rfl (by omega)
       have wrb0 : WfRow T [.i .i64, .i .i64, .l 185] (b.getD i0.toNat []) := wB0.row rfl (by omega)
       first
         | exact ⟨_, _, wra0, wrb0, rfl⟩
         | exact ⟨_, _, wra0, wrb0, Nat.lt_of_lt_of_le (Nat.lt_trans (size_row (by omega)) (size_cell (by rw [wa.1]; decide))) (Nat.le_of_lt_succ hs), rfl⟩
         | (refine res_no ?_; rintro rfl; simp_all [eqDs, eqD, str_inj]; done)
         | (refine ⟨a.length - (i0 + 1).toNat, by omega, i0 + 1, ?_, by omega, by omega, rfl, takes_next h10 hi hl0 h40 (row_eq wra0 wrb0 ?_)⟩
            · exact congrArg (fun z : Int => (([argS 153 a, argS 153 b, .val false [.i .i64 z]], []) : Snap)) (wrap_next h10 hi lA0)
            · simp_all [eqDs, eqD, str_inj, csD, CV.d, rowC, ofD, argG, sub, List.zipIdx, List.range, List.range.loop]))
/-- impl.equalTapes -/
theorem ok64 : FOk Tryz.prog T 64 (eqS 153) := by
  refine fok (env := envL [(103, (eqS 185))]) (N := 55) tabT (envL_cons ok103 envL_nil) mixed Tryz.func64 rfl Tryz.call64 Tryz.ntmps64 ?_
  rintro args ⟨a, b, rfl⟩ hwf
  refine ⟨by simp, ?_⟩
  have wa : WfD T (.l 153) (.l a) := arg0 hwf (List.mem_singleton_self _)
  have wb : WfD T (.l 153) (.l b) := arg1 hwf (List.mem_singleton_self _)
  clear hwf
  have wA0 := wa
  have wB0 := wb
  have lA0 := wa.len
  rw [Tryz.results64]
  repeat' first
    | (refine And.intro ?_ ?_)
    | (intro h; cases h)
    | (intro h; rw [h])
    | (intro h)
  all_goals first
    | (show lowEdges _ = true; kernel_rfl) | (show logOk _ _ = true; kernel_rfl) | trivial | exact Or.inr rfl | exact Or.inl rfl
    | exact ⟨_, _, rfl⟩
    | exact res_no (ne_len ‹_›)
    | (refine res_no ?_; rintro rfl; simp_all [eqDs, eqD, str_inj]; done)
    | (refine res_yes ?_; simp_all [eqDs, eqD, str_inj, csD, CV.d, rowC, ofD, argG, sub, List.zipIdx, List.range, List.range.loop]; done)
    | (refine res_iff ?_; simp_all [eqDs, eqD, str_inj, csD, CV.d, rowC, ofD, argG, sub, List.zipIdx, List.range, List.range.loop]; done)
    | skip
  have hl0 : a.length = b.length := eq_len ‹_›
  refine awp_loop (Q := _) [0, 1, 12, 13] [] (fun n s => ∃ i : Int, s = ([argS 153 a, argS 153 b, .val false [.i .i64 (a).length], .val false [.i .i64 i]], []) ∧ 0 ≤ i ∧ i ≤ a.length ∧ n = a.length - i.toNat ∧ a.take i.toNat = b.take i.toNat) ?_ ?_
  · exact ⟨rfl, a.length - 0, _, rfl, by omega, by omega, rfl, rfl⟩
  rintro n0 s ⟨i0, rfl, h10, h20, h30, h40⟩
  repeat' first
    | (refine And.intro ?_ ?_)
    | (intro h; cases h)
    | (intro h; rw [h])
    | (intro h)
  all_goals first
    | (show lowEdges _ = true; kernel_rfl) | (show logOk _ _ = true; kernel_rfl) | trivial | exact Or.inr rfl | exact Or.inl rfl
    | omega
    | exact of_decide_eq_true ‹_›
    | exact hl0 ▸ of_decide_eq_true ‹decide (i0 < (a.length : Int)) = true›
    | exact ⟨_, _, rfl⟩
    | exact res_yes (eq_of_takes hl0 h10 h20 ‹_› h40)
    | (have hi : i0 < (a.length : Int) := of_decide_eq_true ‹decide (i0 < (a.length : Int)) = true›
       have wra0 : WfRow T [.i .i64, .i .i64, .l 185] (a.getD i0.toNat []) := wA0.row rfl (by omega)
       have wrb0 : WfRow T [.i .i64, .i .i64, .l 185] (b.getD i0.toNat []) := wB0.row rfl (by omega)
       first
         | exact ⟨_, _, wra0, wrb0, rfl⟩
         | exact ⟨_, _, wra0, wrb0, Nat.lt_of_lt_of_le (Nat.lt_trans (size_row (by omega)) (size_cell (by rw [wa.1]; decide))) (Nat.le_of_lt_succ hs), rfl⟩
         | (refine res_no ?_; rintro rfl; simp_all [eqDs, eqD, str_inj]; done)
         | (refine ⟨a.length - (i0 + 1).toNat, by omega, i0 + 1, ?_, by omega, by omega, rfl, takes_next h10 hi hl0 h40 (row_eq wra0 wrb0 ?_)⟩
            · exact congrArg (fun z : Int => (([argS 153 a, argS 153 b, .val false [.i .i64 (a).length], .val false [.i .i64 z]], []) : Snap)) (wrap_next h10 hi lA0)
            · simp_all [eqDs, eqD, str_inj, csD, CV.d, rowC, ofD, argG, sub, List.zipIdx, List.range, List.range.loop]))
/-- spec.l47World -/
theorem ok50 : FOk Tryz.prog T 50 (eqG [.i .i64, .i .i64, .l 116]) := by
  refine fok (env := envL []) (N := 45) tabT envL_nil mixed Tryz.func50 rfl Tryz.call50 Tryz.ntmps50 ?_
  rintro args ⟨a, b, wa, wb, rfl⟩ hwf
  refine ⟨by simp, ?_⟩
  clear hwf
  have wA0 : WfD T (.l 116) (.l (a.getD 2 default).rows) := wa.rows (j := 2) rfl
  have wB0 : WfD T (.l 116) (.l (b.getD 2 default).rows) := wb.rows (j := 2) rfl
  have lA0 := wA0.len
  rw [Tryz.results50]
  repeat' first
    | (refine And.intro ?_ ?_)
    | (intro h; cases h)
    | (intro h; rw [h])
    | (intro h)
  all_goals first
    | (show lowEdges _ = true; kernel_rfl) | (show logOk _ _ = true; kernel_rfl) | trivial | exact Or.inr rfl | exact Or.inl rfl
    | exact ⟨_, _, rfl⟩
    | exact ⟨_, _, wa, wb, rfl⟩
    | exact ⟨sub a 0 1, sub b 0 1, wa.sub 0 1 (by decide), wb.sub 0 1 (by decide), rfl⟩
    | exact ⟨sub a 1 1, sub b 1 1, wa.sub 1 1 (by decide), wb.sub 1 1 (by decide), rfl⟩
    | exact ⟨sub a 2 1, sub b 2 1, wa.sub 2 1 (by decide), wb.sub 2 1 (by decide), rfl⟩
    | (exact res_no (fun he => by have e := row_eq wa wb he; subst e; simp_all [eqDs, eqD, str_inj]))
    | (exact res_no (fun he => by have e := row_eq wa wb he; subst e; simp_all [eqDs, eqD, str_inj]))
    | (refine res_yes ?_; simp_all [eqDs, eqD, str_inj, csD, CV.d, rowC, ofD, argG, sub, List.zipIdx, List.range, List.range.loop]; done)
    | (refine res_iff ?_; simp_all [eqDs, eqD, str_inj, csD, CV.d, rowC, ofD, argG, sub, List.zipIdx, List.range, List.range.loop]; done)
    | skip
  have hl0 : (a.getD 2 default).rows.length = (b.getD 2 default).rows.length := eq_len ‹(((a.getD 2 default).rows.length : Int) != ((b.getD 2 default).rows.length : Int)) = false›
  refine awp_loop (Q := _) [2, 3, 5] [2, 3] (fun n s => ∃ i : Int, s = ([.ptr 2 1 0, .ptr 3 1 0, .val false [.i .i64 i]], [(1, (rowC [.i .i64, .i .i64, .l 116] a).map fun c => .val false [c]), (1, (rowC [.i .i64, .i .i64, .l 116] b).map fun c => .val false [c])]) ∧ 0 ≤ i ∧ i ≤ (a.getD 2 default).rows.length ∧ n = (a.getD 2 default).rows.length - i.toNat ∧ (a.getD 2 default).rows.take i.toNat = (b.getD 2 default).rows.take i.toNat) ?_ ?_
  · exact ⟨rfl, (a.getD 2 default).rows.length - 0, _, rfl, by omega, by omega, rfl, rfl⟩
  rintro n0 s ⟨i0, rfl, h10, h20, h30, h40⟩
  repeat' first
    | (refine And.intro ?_ ?_)
    | (intro h; cases h)
    | (intro h; rw [h])
    | (intro h)
  all_goals first
    | (show lowEdges _ = true; kernel_rfl) | (show logOk _ _ = true; kernel_rfl) | trivial | exact Or.inr rfl | exact Or.inl rfl
    | omega
    | exact of_decide_eq_true ‹_›
    | exact hl0 ▸ of_decide_eq_true ‹decide (i0 < ((a.getD 2 default).rows.length : Int)) = true›
    | exact ⟨_, _, rfl⟩
    | exact ⟨_, _, wa, wb, rfl⟩
    | exact ⟨sub a 0 1, sub b 0 1, wa.sub 0 1 (by decide), wb.sub 0 1 (by decide), rfl⟩
    | exact ⟨sub a 1 1, sub b 1 1, wa.sub 1 1 (by decide), wb.sub 1 1 (by decide), rfl⟩
    | exact ⟨sub a 2 1, sub b 2 1, wa.sub 2 1 (by decide), wb.sub 2 1 (by decide), rfl⟩
    | (have hi : i0 < ((a.getD 2 default).rows.length : Int) := of_decide_eq_true ‹decide (i0 < ((a.getD 2 default).rows.length : Int)) = true›
       have wra0 : WfRow T [.s, .i .i64] ((a.getD 2 default).rows.getD i0.toNat []) := wA0.row rfl (by omega)
       have wrb0 : WfRow T [.s, .i .i64] ((b.getD 2 default).rows.getD i0.toNat []) := wB0.row rfl (by omega)
       first
         | exact ⟨_, _, wra0, wrb0, rfl⟩
         | exact ⟨_, _, wra0, wrb0, Nat.lt_of_lt_of_le (Nat.lt_trans (size_row (by omega)) (size_cell (by rw [wa.1]; decide))) (Nat.le_of_lt_succ hs), rfl⟩
         | (exact res_no (fun he => by have e := row_eq wa wb he; subst e; simp_all [eqDs, eqD, str_inj]))
         | (refine ⟨(a.getD 2 default).rows.length - (i0 + 1).toNat, by omega, i0 + 1, ?_, by omega, by omega, rfl, takes_next h10 hi hl0 h40 (row_eq wra0 wrb0 ?_)⟩
            · exact congrArg (fun z : Int => (([.ptr 2 1 0, .ptr 3 1 0, .val false [.i .i64 z]], [(1, (rowC [.i .i64, .i .i64, .l 116] a).map fun c => .val false [c]), (1, (rowC [.i .i64, .i .i64, .l 116] b).map fun c => .val false [c])]) : Snap)) (wrap_next h10 hi lA0)
            · simp_all [eqDs, eqD, str_inj, csD, CV.d, rowC, ofD, argG, sub, List.zipIdx, List.range, List.range.loop]))
    | (have hA0 : (a.getD 2 default).rows = (b.getD 2 default).rows := eq_of_takes hl0 h10 h20 ‹_› h40
       first
         | (refine res_yes ?_; simp_all [eqDs, eqD, str_inj, csD, CV.d, rowC, ofD, argG, sub, List.zipIdx, List.range, List.range.loop]; done)
         | (refine res_iff ?_; simp_all [eqDs, eqD, str_inj, csD, CV.d, rowC, ofD, argG, sub, List.zipIdx, List.range, List.range.loop]; done)
         | (exact res_no (fun he => by have e := row_eq wa wb he; subst e; simp_all [eqDs, eqD, str_inj])))
end Go.Proofs.YtijnlnmoellbaaaGreat.Ab
