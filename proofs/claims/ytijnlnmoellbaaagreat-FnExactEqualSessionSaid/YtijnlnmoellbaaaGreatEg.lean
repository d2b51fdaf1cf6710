/- Comparisons of the program: printed by a program of this claim. -/
import Derived.Test.YtijnlnmoellbaaaGreatEf
namespace Go.Proofs.YtijnlnmoellbaaaGreat.Ab
open Go.RowKit
set_option linter.unusedVariables false
set_option linter.unusedSimpArgs false
set_option maxRecDepth 100000
set_option maxHeartbeats 1000000
/-- spec.EqualNotebook -/
theorem ok44 : FOk Tryz.prog T 44 (eqG [.l 90]) := by
  refine fok (env := envL []) (N := 31) tabT envL_nil mixed Tryz.func44 rfl Tryz.call44 Tryz.ntmps44 ?_
  rintro args ⟨a, b, wa, wb, rfl⟩ hwf
  refine ⟨by simp, ?_⟩
  clear hwf
  have wA0 : WfD T (.l 90) (.l (a.getD 0 default).rows) := wa.rows (j := 0) rfl
  have wB0 : WfD T (.l 90) (.l (b.getD 0 default).rows) := wb.rows (j := 0) rfl
  have lA0 := wA0.len
  rw [Tryz.results44]
  repeat' first
    | (refine And.intro ?_ ?_)
    | (intro h; cases h)
    | (intro h; rw [h])
    | (intro h)
  all_goals first
    | (show lowEdges _ = true; kernel_rfl) | (show logOk _ _ = true; kernel_rfl) | trivial | exact Or.inr rfl | exact Or.inl rfl
    | exact ⟨_, _, rfl⟩
    | exact ⟨_, _, wa, wb, rfl⟩
    | exact ⟨sub a 0 1, sub b 0 1, wa.sub 0 1 (by decide), wb.sub 0 1 (by decide), rfl⟩
    | (exact res_no (fun he => by have e := row_eq wa wb he; subst e; simp_all [eqDs, eqD, str_inj]))
    | (exact res_no (fun he => by have e := row_eq wa wb he; subst e; simp_all [eqDs, eqD, str_inj]))
    | (refine res_yes ?_; simp_all [eqDs, eqD, str_inj, csD, CV.d, rowC, ofD, argG, sub, List.zipIdx, List.range, List.range.loop]; done)
    | (refine res_iff ?_; simp_all [eqDs, eqD, str_inj, csD, CV.d, rowC, ofD, argG, sub, List.zipIdx, List.range, List.range.loop]; done)
    | skip
  have hl0 : (a.getD 0 default).rows.length = (b.getD 0 default).rows.length := eq_len ‹(((a.getD 0 default).rows.length : Int) != ((b.getD 0 default).rows.length : Int)) = false›
  refine awp_loop (Q := _) [2, 3, 5] [2, 3] (fun n s => ∃ i : Int, s = ([.ptr 2 1 0, .ptr 3 1 0, .val false [.i .i64 i]], [(1, (rowC [.l 90] a).map fun c => .val false [c]), (1, (rowC [.l 90] b).map fun c => .val false [c])]) ∧ 0 ≤ i ∧ i ≤ (a.getD 0 default).rows.length ∧ n = (a.getD 0 default).rows.length - i.toNat ∧ (a.getD 0 default).rows.take i.toNat = (b.getD 0 default).rows.take i.toNat) ?_ ?_
  · exact ⟨rfl, (a.getD 0 default).rows.length - 0, _, rfl, by omega, by omega, rfl, rfl⟩
  rintro n0 s ⟨i0, rfl, h10, h20, h30, h40⟩
  repeat' first
    | (refine And.intro ?_ ?_)
    | (intro h; cases h)
    | (intro h; rw [h])
    | (intro h)
  all_goals first
    | (show lowEdges _ = true; kernel_rfl) | (show logOk _ _ = true; kernel_rfl) | trivial | exact Or.inr rfl | exact Or.inl rfl
    | omega
    | exact of_decide_eq_true ‹_›
    | exact hl0 ▸ of_decide_eq_true ‹decide (i0 < ((a.getD 0 default).rows.length : Int)) = true›
    | exact ⟨_, _, rfl⟩
    | exact ⟨_, _, wa, wb, rfl⟩
    | exact ⟨sub a 0 1, sub b 0 1, wa.sub 0 1 (by decide), wb.sub 0 1 (by decide), rfl⟩
    | (have hi : i0 < ((a.getD 0 default).rows.length : Int) := of_decide_eq_true ‹decide (i0 < ((a.getD 0 default).rows.length : Int)) = true›
       have wra0 : WfRow T [.i .i64, .i .i64, .i .i64, .s, .s, .i .i64] ((a.getD 0 default).rows.getD i0.toNat []) := wA0.row rfl (by omega)
       have wrb0 : WfRow T [.i .i64, .i .i64, .i .i64, .s, .s, .i .i64] ((b.getD 0 default).rows.getD i0.toNat []) := wB0.row rfl (by omega)
       first
         | exact ⟨_, _, wra0, wrb0, rfl⟩
         | exact ⟨_, _, wra0, wrb0, Nat.lt_of_lt_of_le (Nat.lt_trans (size_row (by omega)) (size_cell (by rw [wa.1]; decide))) (Nat.le_of_lt_succ hs), rfl⟩
         | (exact res_no (fun he => by have e := row_eq wa wb he; subst e; simp_all [eqDs, eqD, str_inj]))
         | (refine ⟨(a.getD 0 default).rows.length - (i0 + 1).toNat, by omega, i0 + 1, ?_, by omega, by omega, rfl, takes_next h10 hi hl0 h40 (row_eq wra0 wrb0 ?_)⟩
            · exact congrArg (fun z : Int => (([.ptr 2 1 0, .ptr 3 1 0, .val false [.i .i64 z]], [(1, (rowC [.l 90] a).map fun c => .val false [c]), (1, (rowC [.l 90] b).map fun c => .val false [c])]) : Snap)) (wrap_next h10 hi lA0)
            · simp_all [eqDs, eqD, str_inj, csD, CV.d, rowC, ofD, argG, sub, List.zipIdx, List.range, List.range.loop]))
    | (have hA0 : (a.getD 0 default).rows = (b.getD 0 default).rows := eq_of_takes hl0 h10 h20 ‹_› h40
       first
         | (refine res_yes ?_; simp_all [eqDs, eqD, str_inj, csD, CV.d, rowC, ofD, argG, sub, List.zipIdx, List.range, List.range.loop]; done)
         | (refine res_iff ?_; simp_all [eqDs, eqD, str_inj, csD, CV.d, rowC, ofD, argG, sub, List.zipIdx, List.range, List.range.loop]; done)
         | (exact res_no (fun he => by have e := row_eq wa wb he; subst e; simp_all [eqDs, eqD, str_inj])))
/-- impl.EqualNotebook -/
theorem ok62 : FOk Tryz.prog T 62 (eqG [.l 90]) := by
  refine fok (env := envL [(102, (eqS 90))]) (N := 10) tabT (envL_cons ok102 envL_nil) mixed Tryz.func62 rfl Tryz.call62 Tryz.ntmps62 ?_
  rintro args ⟨a, b, wa, wb, rfl⟩ hwf
  refine ⟨by simp, ?_⟩
  clear hwf
  rw [Tryz.results62]
  repeat' first
    | (refine And.intro ?_ ?_)
    | (intro h; cases h)
    | (intro h; rw [h])
    | (intro h)
  all_goals first
    | (show lowEdges _ = true; kernel_rfl) | (show logOk _ _ = true; kernel_rfl) | trivial | exact Or.inr rfl | exact Or.inl rfl
    | exact ⟨_, _, rfl⟩
    | exact ⟨_, _, wa, wb, rfl⟩
    | exact ⟨sub a 0 1, sub b 0 1, wa.sub 0 1 (by decide), wb.sub 0 1 (by decide), rfl⟩
    | (exact res_no (fun he => by have e := row_eq wa wb he; subst e; simp_all [eqDs, eqD, str_inj]))
    | (exact res_no (fun he => by have e := row_eq wa wb he; subst e; simp_all [eqDs, eqD, str_inj]))
    | (refine res_yes ?_; simp_all [eqDs, eqD, str_inj, csD, CV.d, rowC, ofD, argG, sub, List.zipIdx, List.range, List.range.loop]; done)
    | (refine res_iff ?_; simp_all [eqDs, eqD, str_inj, csD, CV.d, rowC, ofD, argG, sub, List.zipIdx, List.range, List.range.loop]; done)
    | skip
/-- impl.sameRead -/
theorem ok141 : FOk Tryz.prog T 141 (eqP [.i .i64, .i .i64, .i .i64, .s, .i .i64, .i .i64, .i .i64, .s, .l 103, .l 9, .l 189] 4) := by
  refine fok (env := envL []) (N := 31) tabT envL_nil mixed Tryz.func141 rfl Tryz.call141 Tryz.ntmps141 ?_
  rintro args ⟨a, b, wa, wb, rfl⟩ hwf
  refine ⟨by simp, ?_⟩
  clear hwf
  rw [Tryz.results141]
  repeat' first
    | (refine And.intro ?_ ?_)
    | (intro h; cases h)
    | (intro h; rw [h])
    | (intro h)
  all_goals first
    | (show lowEdges _ = true; kernel_rfl) | (show logOk _ _ = true; kernel_rfl) | trivial | exact Or.inr rfl | exact Or.inl rfl
    | exact ⟨_, _, rfl⟩
    | exact ⟨sub a 0 1, sub b 0 1, wa.sub 0 1 (by decide), wb.sub 0 1 (by decide), rfl⟩
    | exact ⟨sub a 1 1, sub b 1 1, wa.sub 1 1 (by decide), wb.sub 1 1 (by decide), rfl⟩
    | exact ⟨sub a 2 1, sub b 2 1, wa.sub 2 1 (by decide), wb.sub 2 1 (by decide), rfl⟩
    | exact ⟨sub a 3 1, sub b 3 1, wa.sub 3 1 (by decide), wb.sub 3 1 (by decide), rfl⟩
    | exact ⟨sub a 4 7, sub b 4 7, wa.sub 4 7 (by decide), wb.sub 4 7 (by decide), rfl⟩
    | (refine res_no ?_; simp_all [eqDs, eqD, str_inj, csD, CV.d, rowC, ofD, argG, sub, List.zipIdx, List.range, List.range.loop]; done)
    | (refine res_no ?_; simp_all [eqDs, eqD, str_inj, csD, CV.d, rowC, ofD, argG, sub, List.zipIdx, List.range, List.range.loop]; done)
    | (refine res_yes ?_; simp_all [eqDs, eqD, str_inj, csD, CV.d, rowC, ofD, argG, sub, List.zipIdx, List.range, List.range.loop]; done)
    | (refine res_iff ?_; simp_all [eqDs, eqD, str_inj, csD, CV.d, rowC, ofD, argG, sub, List.zipIdx, List.range, List.range.loop]; done)
    | skip
/-- spec.l16Same -/
theorem ok130 : FOk Tryz.prog T 130 (eqP [.i .i64, .i .i64, .i .i64, .s, .i .i64, .i .i64, .i .i64, .s, .l 103, .l 9, .l 189] 4) := by
  refine fok (env := envL []) (N := 31) tabT envL_nil mixed Tryz.func130 rfl Tryz.call130 Tryz.ntmps130 ?_
  rintro args ⟨a, b, wa, wb, rfl⟩ hwf
  refine ⟨by simp, ?_⟩
  clear hwf
  rw [Tryz.results130]
  repeat' first
    | (refine And.intro ?_ ?_)
    | (intro h; cases h)
    | (intro h; rw [h])
    | (intro h)
  all_goals first
    | (show lowEdges _ = true; kernel_rfl) | (show logOk _ _ = true; kernel_rfl) | trivial | exact Or.inr rfl | exact Or.inl rfl
    | exact ⟨_, _, rfl⟩
    | exact ⟨sub a 0 1, sub b 0 1, wa.sub 0 1 (by decide), wb.sub 0 1 (by decide), rfl⟩
    | exact ⟨sub a 1 1, sub b 1 1, wa.sub 1 1 (by decide), wb.sub 1 1 (by decide), rfl⟩
    | exact ⟨sub a 2 1, sub b 2 1, wa.sub 2 1 (by decide), wb.sub 2 1 (by decide), rfl⟩
    | exact ⟨sub a 3 1, sub b 3 1, wa.sub 3 1 (by decide), wb.sub 3 1 (by decide), rfl⟩
    | exact ⟨sub a 4 7, sub b 4 7, wa.sub 4 7 (by decide), wb.sub 4 7 (by decide), rfl⟩
    | (refine res_no ?_; simp_all [eqDs, eqD, str_inj, csD, CV.d, rowC, ofD, argG, sub, List.zipIdx, List.range, List.range.loop]; done)
    | (refine res_no ?_; simp_all [eqDs, eqD, str_inj, csD, CV.d, rowC, ofD, argG, sub, List.zipIdx, List.range, List.range.loop]; done)
    | (refine res_yes ?_; simp_all [eqDs, eqD, str_inj, csD, CV.d, rowC, ofD, argG, sub, List.zipIdx, List.range, List.range.loop]; done)
    | (refine res_iff ?_; simp_all [eqDs, eqD, str_inj, csD, CV.d, rowC, ofD, argG, sub, List.zipIdx, List.range, List.range.loop]; done)
    | skip
/-- spec.l3Same -/
theorem step95 (n : Nat) (hn : FOk Tryz.prog T 95 (eqFn [.i .i64, .i .i64, .i .i64, .s, .l 103, .l 9, .l 189] n)) : FOk Tryz.prog T 95 (eqFn [.i .i64, .i .i64, .i .i64, .s, .l 103, .l 9, .l 189] (n + 1)) := by
  refine fok (env := envL [(131, (eqS 9)), (95, (eqFn [.i .i64, .i .i64, .i .i64, .s, .l 103, .l 9, .l 189] n)), (52, (eqS 3)), (132, (eqS 198))]) (N := 121) tabT (envL_cons ok131 (envL_cons hn (envL_cons ok52 (envL_cons ok132 envL_nil)))) mixed Tryz.func95 rfl Tryz.call95 Tryz.ntmps95 ?_
  rintro args ⟨a, b, wa, wb, hs, rfl⟩ hwf
  refine ⟨by simp, ?_⟩
  clear hwf
  have wA0 : WfD T (.l 103) (.l (a.getD 4 default).rows) := wa.rows (j := 4) rfl
  have wB0 : WfD T (.l 103) (.l (b.getD 4 default).rows) := wb.rows (j := 4) rfl
  have lA0 := wA0.len
  have wA1 : WfD T (.l 189) (.l (a.getD 6 default).rows) := wa.rows (j := 6) rfl
  have wB1 : WfD T (.l 189) (.l (b.getD 6 default).rows) := wb.rows (j := 6) rfl
  have lA1 := wA1.len
  rw [Tryz.results95]
  repeat' first
    | (refine And.intro ?_ ?_)
    | (intro h; cases h)
    | (intro h; rw [h])
    | (intro h)
  all_goals first
    | (show lowEdges _ = true; kernel_rfl) | (show logOk _ _ = true; kernel_rfl) | trivial | exact Or.inr rfl | exact Or.inl rfl
    | exact ⟨_, _, rfl⟩
    | exact ⟨_, _, wa, wb, rfl⟩
    | exact ⟨sub a 0 1, sub b 0 1, wa.sub 0 1 (by decide), wb.sub 0 1 (by decide), rfl⟩
    | exact ⟨sub a 1 1, sub b 1 1, wa.sub 1 1 (by decide), wb.sub 1 1 (by decide), rfl⟩
    | exact ⟨sub a 2 1, sub b 2 1, wa.sub 2 1 (by decide), wb.sub 2 1 (by decide), rfl⟩
    | exact ⟨sub a 3 1, sub b 3 1, wa.sub 3 1 (by decide), wb.sub 3 1 (by decide), rfl⟩
    | exact ⟨sub a 4 1, sub b 4 1, wa.sub 4 1 (by decide), wb.sub 4 1 (by decide), rfl⟩
    | exact ⟨sub a 5 1, sub b 5 1, wa.sub 5 1 (by decide), wb.sub 5 1 (by decide), rfl⟩
    | exact ⟨sub a 6 1, sub b 6 1, wa.sub 6 1 (by decide), wb.sub 6 1 (by decide), rfl⟩
    | (exact res_no (fun he => by have e := row_eq wa wb he; subst e; simp_all [eqDs, eqD, str_inj]))
    | (exact res_no (fun he => by have e := row_eq wa wb he; subst e; simp_all [eqDs, eqD, str_inj]))
    | (refine res_yes ?_; simp_all [eqDs, eqD, str_inj, csD, CV.d, rowC, ofD, argG, sub, List.zipIdx, List.range, List.range.loop]; done)
    | (refine res_iff ?_; simp_all [eqDs, eqD, str_inj, csD, CV.d, rowC, ofD, argG, sub, List.zipIdx, List.range, List.range.loop]; done)
    | skip
  have hl0 : (a.getD 4 default).rows.length = (b.getD 4 default).rows.length := eq_len ‹(((a.getD 4 default).rows.length : Int) != ((b.getD 4 default).rows.length : Int)) = false›
  refine awp_loop (Q := _) [2, 3, 4, 7] [3, 4] (fun n s => ∃ i : Int, s = ([.val false [.b true], .ptr 3 1 0, .ptr 4 1 0, .val false [.i .i64 i]], [(1, (rowC [.i .i64, .i .i64, .i .i64, .s, .l 103, .l 9, .l 189] a).map fun c => .val false [c]), (1, (rowC [.i .i64, .i .i64, .i .i64, .s, .l 103, .l 9, .l 189] b).map fun c => .val false [c])]) ∧ 0 ≤ i ∧ i ≤ (a.getD 4 default).rows.length ∧ n = (a.getD 4 default).rows.length - i.toNat ∧ (a.getD 4 default).rows.take i.toNat = (b.getD 4 default).rows.take i.toNat) ?_ ?_
  · exact ⟨rfl, (a.getD 4 default).rows.length - 0, _, rfl, by omega, by omega, rfl, rfl⟩
  rintro n0 s ⟨i0, rfl, h10, h20, h30, h40⟩
  repeat' first
    | (refine And.intro ?_ ?_)
    | (intro h; cases h)
    | (intro h; rw [h])
    | (intro h)
  all_goals first
    | (show lowEdges _ = true; kernel_rfl) | (show logOk _ _ = true; kernel_rfl) | trivial | exact Or.inr rfl | exact Or.inl rfl
    | omega
    | exact of_decide_eq_true ‹_›
    | exact hl0 ▸ of_decide_eq_true ‹decide (i0 < ((a.getD 4 default).rows.length : Int)) = true›
    | exact ⟨_, _, rfl⟩
    | exact ⟨_, _, wa, wb, rfl⟩
    | exact ⟨sub a 0 1, sub b 0 1, wa.sub 0 1 (by decide), wb.sub 0 1 (by decide), rfl⟩
    | exact ⟨sub a 1 1, sub b 1 1, wa.sub 1 1 (by decide), wb.sub 1 1 (by decide), rfl⟩
    | exact ⟨sub a 2 1, sub b 2 1, wa.sub 2 1 (by decide), wb.sub 2 1 (by decide), rfl⟩
    | exact ⟨sub a 3 1, sub b 3 1, wa.sub 3 1 (by decide), wb.sub 3 1 (by decide), rfl⟩
    | exact ⟨sub a 4 1, sub b 4 1, wa.sub 4 1 (by decide), wb.sub 4 1 (by decide), rfl⟩
    | exact ⟨sub a 5 1, sub b 5 1, wa.sub 5 1 (by decide), wb.sub 5 1 (by decide), rfl⟩
    | exact ⟨sub a 6 1, sub b 6 1, wa.sub 6 1 (by decide), wb.sub 6 1 (by decide), rfl⟩
    | (have hi : i0 < ((a.getD 4 default).rows.length : Int) := of_decide_eq_true ‹decide (i0 < ((a.getD 4 default).rows.length : Int)) = true›
       have wra0 : WfRow T [.i .i64, .i .i64, .i .i64, .s, .l 103, .l 9, .l 189] ((a.getD 4 default).rows.getD i0.toNat []) := wA0.row rfl (by omega)
       have wrb0 : WfRow T [.i .i64, .i .i64, .i .i64, .s, .l 103, .l 9, .l 189] ((b.getD 4 default).rows.getD i0.toNat []) := wB0.row rfl (by omega)
       first
         | exact ⟨_, _, wra0, wrb0, rfl⟩
         | exact ⟨_, _, wra0, wrb0, Nat.lt_of_lt_of_le (Nat.lt_trans (size_row (by omega)) (size_cell (by rw [wa.1]; decide))) (Nat.le_of_lt_succ hs), rfl⟩
         | (exact res_no (fun he => by have e := row_eq wa wb he; subst e; simp_all [eqDs, eqD, str_inj]))
         | (refine ⟨(a.getD 4 default).rows.length - (i0 + 1).toNat, by omega, i0 + 1, ?_, by omega, by omega, rfl, takes_next h10 hi hl0 h40 (row_eq wra0 wrb0 ?_)⟩
            · exact congrArg (fun z : Int => (([.val false [.b true], .ptr 3 1 0, .ptr 4 1 0, .val false [.i .i64 z]], [(1, (rowC [.i .i64, .i .i64, .i .i64, .s, .l 103, .l 9, .l 189] a).map fun c => .val false [c]), (1, (rowC [.i .i64, .i .i64, .i .i64, .s, .l 103, .l 9, .l 189] b).map fun c => .val false [c])]) : Snap)) (wrap_next h10 hi lA0)
            · simp_all [eqDs, eqD, str_inj, csD, CV.d, rowC, ofD, argG, sub, List.zipIdx, List.range, List.range.loop]))
    | (have hA0 : (a.getD 4 default).rows = (b.getD 4 default).rows := eq_of_takes hl0 h10 h20 ‹_› h40
       first
         | (refine res_yes ?_; simp_all [eqDs, eqD, str_inj, csD, CV.d, rowC, ofD, argG, sub, List.zipIdx, List.range, List.range.loop]; done)
         | (refine res_iff ?_; simp_all [eqDs, eqD, str_inj, csD, CV.d, rowC, ofD, argG, sub, List.zipIdx, List.range, List.range.loop]; done)
         | (exact res_no (fun he => by have e := row_eq wa wb he; subst e; simp_all [eqDs, eqD, str_inj])))
    | skip
  have hA0 : (a.getD 4 default).rows = (b.getD 4 default).rows := eq_of_takes hl0 h10 h20 ‹decide (i0 < ((a.getD 4 default).rows.length : Int)) = false› h40
  have hl1 : (a.getD 6 default).rows.length = (b.getD 6 default).rows.length := eq_len ‹(((a.getD 6 default).rows.length : Int) != ((b.getD 6 default).rows.length : Int)) = false›
  refine awp_loop (Q := _) [2, 3, 4, 8] [3, 4] (fun n s => ∃ i : Int, s = ([.val false [.b true], .ptr 3 1 0, .ptr 4 1 0, .val false [.i .i64 i]], [(1, (rowC [.i .i64, .i .i64, .i .i64, .s, .l 103, .l 9, .l 189] a).map fun c => .val false [c]), (1, (rowC [.i .i64, .i .i64, .i .i64, .s, .l 103, .l 9, .l 189] b).map fun c => .val false [c])]) ∧ 0 ≤ i ∧ i ≤ (a.getD 6 default).rows.length ∧ n = (a.getD 6 default).rows.length - i.toNat ∧ (a.getD 6 default).rows.take i.toNat = (b.getD 6 default).rows.take i.toNat) ?_ ?_
  · exact ⟨rfl, (a.getD 6 default).rows.length - 0, _, rfl, by omega, by omega, rfl, rfl⟩
  rintro n1 s ⟨i1, rfl, h11, h21, h31, h41⟩
  repeat' first
    | (refine And.intro ?_ ?_)
    | (intro h; cases h)
    | (intro h; rw [h])
    | (intro h)
  all_goals first
    | (show lowEdges _ = true; kernel_rfl) | (show logOk _ _ = true; kernel_rfl) | trivial | exact Or.inr rfl | exact Or.inl rfl
    | omega
    | exact of_decide_eq_true ‹_›
    | exact hl1 ▸ of_decide_eq_true ‹decide (i1 < ((a.getD 6 default).rows.length : Int)) = true›
    | exact ⟨_, _, rfl⟩
    | exact ⟨_, _, wa, wb, rfl⟩
    | exact ⟨sub a 0 1, sub b 0 1, wa.sub 0 1 (by decide), wb.sub 0 1 (by decide), rfl⟩
    | exact ⟨sub a 1 1, sub b 1 1, wa.sub 1 1 (by decide), wb.sub 1 1 (by decide), rfl⟩
    | exact ⟨sub a 2 1, sub b 2 1, wa.sub 2 1 (by decide), wb.sub 2 1 (by decide), rfl⟩
    | exact ⟨sub a 3 1, sub b 3 1, wa.sub 3 1 (by decide), wb.sub 3 1 (by decide), rfl⟩
    | exact ⟨sub a 4 1, sub b 4 1, wa.sub 4 1 (by decide), wb.sub 4 1 (by decide), rfl⟩
    | exact ⟨sub a 5 1, sub b 5 1, wa.sub 5 1 (by decide), wb.sub 5 1 (by decide), rfl⟩
    | exact ⟨sub a 6 1, sub b 6 1, wa.sub 6 1 (by decide), wb.sub 6 1 (by decide), rfl⟩
    | (have hi : i1 < ((a.getD 6 default).rows.length : Int) := of_decide_eq_true ‹decide (i1 < ((a.getD 6 default).rows.length : Int)) = true›
       have wra1 : WfRow T [.l 3, .l 198] ((a.getD 6 default).rows.getD i1.toNat []) := wA1.row rfl (by omega)
       have wrb1 : WfRow T [.l 3, .l 198] ((b.getD 6 default).rows.getD i1.toNat []) := wB1.row rfl (by omega)
       first
         | exact ⟨_, _, wra1, wrb1, rfl⟩
         | exact ⟨_, _, wra1, wrb1, Nat.lt_of_lt_of_le (Nat.lt_trans (size_row (by omega)) (size_cell (by rw [wa.1]; decide))) (Nat.le_of_lt_succ hs), rfl⟩
         | (exact res_no (fun he => by have e := row_eq wa wb he; subst e; simp_all [eqDs, eqD, str_inj]))
         | (refine ⟨(a.getD 6 default).rows.length - (i1 + 1).toNat, by omega, i1 + 1, ?_, by omega, by omega, rfl, takes_next h11 hi hl1 h41 (row_eq wra1 wrb1 ?_)⟩
            · exact congrArg (fun z : Int => (([.val false [.b true], .ptr 3 1 0, .ptr 4 1 0, .val false [.i .i64 z]], [(1, (rowC [.i .i64, .i .i64, .i .i64, .s, .l 103, .l 9, .l 189] a).map fun c => .val false [c]), (1, (rowC [.i .i64, .i .i64, .i .i64, .s, .l 103, .l 9, .l 189] b).map fun c => .val false [c])]) : Snap)) (wrap_next h11 hi lA1)
            · simp_all [eqDs, eqD, str_inj, csD, CV.d, rowC, ofD, argG, sub, List.zipIdx, List.range, List.range.loop]))
    | (have hA1 : (a.getD 6 default).rows = (b.getD 6 default).rows := eq_of_takes hl1 h11 h21 ‹_› h41
       first
         | (refine res_yes ?_; simp_all [eqDs, eqD, str_inj, csD, CV.d, rowC, ofD, argG, sub, List.zipIdx, List.range, List.range.loop]; done)
         | (refine res_iff ?_; simp_all [eqDs, eqD, str_inj, csD, CV.d, rowC, ofD, argG, sub, List.zipIdx, List.range, List.range.loop]; done)
         | (exact res_no (fun he => by have e := row_eq wa wb he; subst e; simp_all [eqDs, eqD, str_inj])))
theorem zero95 : FOk Tryz.prog T 95 (eqFn [.i .i64, .i .i64, .i .i64, .s, .l 103, .l 9, .l 189] 0) := by
  refine fok (env := envL []) (N := 121) tabT envL_nil mixed Tryz.func95 rfl Tryz.call95 Tryz.ntmps95 ?_
  rintro args ⟨a, b, wa, wb, hs, rfl⟩ _
  exact absurd hs (Nat.not_lt_zero _)
theorem all95 (n : Nat) : FOk Tryz.prog T 95 (eqFn [.i .i64, .i .i64, .i .i64, .s, .l 103, .l 9, .l 189] n) := by
  induction n with
  | zero => exact zero95
  | succ n ih => exact step95 n ih
theorem ok95 : FOk Tryz.prog T 95 (eqF [.i .i64, .i .i64, .i .i64, .s, .l 103, .l 9, .l 189]) := FOk.lift (s := fun n => eqFn [.i .i64, .i .i64, .i .i64, .s, .l 103, .l 9, .l 189] n) all95 (fun args ⟨a, b, wa, wb, h⟩ => ⟨SizeOf.sizeOf a + 1, a, b, wa, wb, Nat.lt_succ_self _, h⟩) (fun n => rfl)
/-- impl.equal -/
theorem step101 (n : Nat) (hn : FOk Tryz.prog T 101 (eqFn [.i .i64, .i .i64, .i .i64, .s, .l 103, .l 9, .l 189] n)) : FOk Tryz.prog T 101 (eqFn [.i .i64, .i .i64, .i .i64, .s, .l 103, .l 9, .l 189] (n + 1)) := by
  refine fok (env := envL [(139, (eqS 9)), (101, (eqFn [.i .i64, .i .i64, .i .i64, .s, .l 103, .l 9, .l 189] n)), (60, (eqS 3)), (140, (eqS 198))]) (N := 121) tabT (envL_cons ok139 (envL_cons hn (envL_cons ok60 (envL_cons ok140 envL_nil)))) mixed Tryz.func101 rfl Tryz.call101 Tryz.ntmps101 ?_
  rintro args ⟨a, b, wa, wb, hs, rfl⟩ hwf
  refine ⟨by simp, ?_⟩
  clear hwf
  have wA0 : WfD T (.l 103) (.l (a.getD 4 default).rows) := wa.rows (j := 4) rfl
  have wB0 : WfD T (.l 103) (.l (b.getD 4 default).rows) := wb.rows (j := 4) rfl
  have lA0 := wA0.len
  have wA1 : WfD T (.l 189) (.l (a.getD 6 default).rows) := wa.rows (j := 6) rfl
  have wB1 : WfD T (.l 189) (.l (b.getD 6 default).rows) := wb.rows (j := 6) rfl
  have lA1 := wA1.len
  rw [Tryz.results101]
  repeat' first
    | (refine And.intro ?_ ?_)
    | (intro h; cases h)
    | (intro h; rw [h])
    | (intro h)
  all_goals first
    | (show lowEdges _ = true; kernel_rfl) | (show logOk _ _ = true; kernel_rfl) | trivial | exact Or.inr rfl | exact Or.inl rfl
    | exact ⟨_, _, rfl⟩
    | exact ⟨_, _, wa, wb, rfl⟩
    | exact ⟨sub a 0 1, sub b 0 1, wa.sub 0 1 (by decide), wb.sub 0 1 (by decide), rfl⟩
    | exact ⟨sub a 1 1, sub b 1 1, wa.sub 1 1 (by decide), wb.sub 1 1 (by decide), rfl⟩
    | exact ⟨sub a 2 1, sub b 2 1, wa.sub 2 1 (by decide), wb.sub 2 1 (by decide), rfl⟩
    | exact ⟨sub a 3 1, sub b 3 1, wa.sub 3 1 (by decide), wb.sub 3 1 (by decide), rfl⟩
    | exact ⟨sub a 4 1, sub b 4 1, wa.sub 4 1 (by decide), wb.sub 4 1 (by decide), rfl⟩
    | exact ⟨sub a 5 1, sub b 5 1, wa.sub 5 1 (by decide), wb.sub 5 1 (by decide), rfl⟩
    | exact ⟨sub a 6 1, sub b 6 1, wa.sub 6 1 (by decide), wb.sub 6 1 (by decide), rfl⟩
    | (exact res_no (fun he => by have e := row_eq wa wb he; subst e; simp_all [eqDs, eqD, str_inj]))
    | (exact res_no (fun he => by have e := row_eq wa wb he; subst e; simp_all [eqDs, eqD, str_inj]))
    | (refine res_yes ?_; simp_all [eqDs, eqD, str_inj, csD, CV.d, rowC, ofD, argG, sub, List.zipIdx, List.range, List.range.loop]; done)
    | (refine res_iff ?_; simp_all [eqDs, eqD, str_inj, csD, CV.d, rowC, ofD, argG, sub, List.zipIdx, List.range, List.range.loop]; done)
    | skip
  have hl0 : (a.getD 4 default).rows.length = (b.getD 4 default).rows.length := eq_len ‹(((a.getD 4 default).rows.length : Int) != ((b.getD 4 default).rows.length : Int)) = false›
  refine awp_loop (Q := _) [2, 3, 4, 63, 64] [3, 4] (fun n s => ∃ i : Int, s = ([.val false [.b true], .ptr 3 1 0, .ptr 4 1 0, .val false [.i .i64 ((a.getD 4 default).rows).length], .val false [.i .i64 i]], [(1, (rowC [.i .i64, .i .i64, .i .i64, .s, .l 103, .l 9, .l 189] a).map fun c => .val false [c]), (1, (rowC [.i .i64, .i .i64, .i .i64, .s, .l 103, .l 9, .l 189] b).map fun c => .val false [c])]) ∧ 0 ≤ i ∧ i ≤ (a.getD 4 default).rows.length ∧ n = (a.getD 4 default).rows.length - i.toNat ∧ (a.getD 4 default).rows.take i.toNat = (b.getD 4 default).rows.take i.toNat) ?_ ?_
  · exact ⟨rfl, (a.getD 4 default).rows.length - 0, _, rfl, by omega, by omega, rfl, rfl⟩
  rintro n0 s ⟨i0, rfl, h10, h20, h30, h40⟩
  repeat' first
    | (refine And.intro ?_ ?_)
    | (intro h; cases h)
    | (intro h; rw [h])
    | (intro h)
  all_goals first
    | (show lowEdges _ = true; kernel_rfl) | (show logOk _ _ = true; kernel_rfl) | trivial | exact Or.inr rfl | exact Or.inl rfl
    | omega
    | exact of_decide_eq_true ‹_›
    | exact hl0 ▸ of_decide_eq_true ‹decide (i0 < ((a.getD 4 default).rows.length : Int)) = true›
    | exact ⟨_, _, rfl⟩
    | exact ⟨_, _, wa, wb, rfl⟩
    | exact ⟨sub a 0 1, sub b 0 1, wa.sub 0 1 (by decide), wb.sub 0 1 (by decide), rfl⟩
    | exact ⟨sub a 1 1, sub b 1 1, wa.sub 1 1 (by decide), wb.sub 1 1 (by decide), rfl⟩
    | exact ⟨sub a 2 1, sub b 2 1, wa.sub 2 1 (by decide), wb.sub 2 1 (by decide), rfl⟩
    | exact ⟨sub a 3 1, sub b 3 1, wa.sub 3 1 (by decide), wb.sub 3 1 (by decide), rfl⟩
    | exact ⟨sub a 4 1, sub b 4 1, wa.sub 4 1 (by decide), wb.sub 4 1 (by decide), rfl⟩
    | exact ⟨sub a 5 1, sub b 5 1, wa.sub 5 1 (by decide), wb.sub 5 1 (by decide), rfl⟩
    | exact ⟨sub a 6 1, sub b 6 1, wa.sub 6 1 (by decide), wb.sub 6 1 (by decide), rfl⟩
    | (have hi : i0 < ((a.getD 4 default).rows.length : Int) := of_decide_eq_true ‹decide (i0 < ((a.getD 4 default).rows.length : Int)) = true›
       have wra0 : WfRow T [.i .i64, .i .i64, .i .i64, .s, .l 103, .l 9, .l 189] ((a.getD 4 default).rows.getD i0.toNat []) := wA0.row rfl (by omega)
       have wrb0 : WfRow T [.i .i64, .i .i64, .i .i64, .s, .l 103, .l 9, .l 189] ((b.getD 4 default).rows.getD i0.toNat []) := wB0.row rfl (by omega)
       first
         | exact ⟨_, _, wra0, wrb0, rfl⟩
         | exact ⟨_, _, wra0, wrb0, Nat.lt_of_lt_of_le (Nat.lt_trans (size_row (by omega)) (size_cell (by rw [wa.1]; decide))) (Nat.le_of_lt_succ hs), rfl⟩
         | (exact res_no (fun he => by have e := row_eq wa wb he; subst e; simp_all [eqDs, eqD, str_inj]))
         | (refine ⟨(a.getD 4 default).rows.length - (i0 + 1).toNat, by omega, i0 + 1, ?_, by omega, by omega, rfl, takes_next h10 hi hl0 h40 (row_eq wra0 wrb0 ?_)⟩
            · exact congrArg (fun z : Int => (([.val false [.b true], .ptr 3 1 0, .ptr 4 1 0, .val false [.i .i64 ((a.getD 4 default).rows).length], .val false [.i .i64 z]], [(1, (rowC [.i .i64, .i .i64, .i .i64, .s, .l 103, .l 9, .l 189] a).map fun c => .val false [c]), (1, (rowC [.i .i64, .i .i64, .i .i64, .s, .l 103, .l 9, .l 189] b).map fun c => .val false [c])]) : Snap)) (wrap_next h10 hi lA0)
            · simp_all [eqDs, eqD, str_inj, csD, CV.d, rowC, ofD, argG, sub, List.zipIdx, List.range, List.range.loop]))
    | (have hA0 : (a.getD 4 default).rows = (b.getD 4 default).rows := eq_of_takes hl0 h10 h20 ‹_› h40
       first
         | (refine res_yes ?_; simp_all [eqDs, eqD, str_inj, csD, CV.d, rowC, ofD, argG, sub, List.zipIdx, List.range, List.range.loop]; done)
         | (refine res_iff ?_; simp_all [eqDs, eqD, str_inj, csD, CV.d, rowC, ofD, argG, sub, List.zipIdx, List.range, List.range.loop]; done)
         | (exact res_no (fun he => by have e := row_eq wa wb he; subst e; simp_all [eqDs, eqD, str_inj])))
    | skip
  have hA0 : (a.getD 4 default).rows = (b.getD 4 default).rows := eq_of_takes hl0 h10 h20 ‹decide (i0 < ((a.getD 4 default).rows.length : Int)) = false› h40
  have hl1 : (a.getD 6 default).rows.length = (b.getD 6 default).rows.length := eq_len ‹(((a.getD 6 default).rows.length : Int) != ((b.getD 6 default).rows.length : Int)) = false›
  refine awp_loop (Q := _) [2, 3, 4, 83, 84] [3, 4] (fun n s => ∃ i : Int, s = ([.val false [.b true], .ptr 3 1 0, .ptr 4 1 0, .val false [.i .i64 ((a.getD 6 default).rows).length], .val false [.i .i64 i]], [(1, (rowC [.i .i64, .i .i64, .i .i64, .s, .l 103, .l 9, .l 189] a).map fun c => .val false [c]), (1, (rowC [.i .i64, .i .i64, .i .i64, .s, .l 103, .l 9, .l 189] b).map fun c => .val false [c])]) ∧ 0 ≤ i ∧ i ≤ (a.getD 6 default).rows.length ∧ n = (a.getD 6 default).rows.length - i.toNat ∧ (a.getD 6 default).rows.take i.toNat = (b.getD 6 default).rows.take i.toNat) ?_ ?_
  · exact ⟨rfl, (a.getD 6 default).rows.length - 0, _, rfl, by omega, by omega, rfl, rfl⟩
  rintro n1 s ⟨i1, rfl, h11, h21, h31, h41⟩
  repeat' first
    | (refine And.intro ?_ ?_)
    | (intro h; cases h)
    | (intro h; rw [h])
    | (intro h)
  all_goals first
    | (show lowEdges _ = true; kernel_rfl) | (show logOk _ _ = true; kernel_rfl) | trivial | exact Or.inr rfl | exact Or.inl rfl
    | omega
    | exact of_decide_eq_true ‹_›
    | exact hl1 ▸ of_decide_eq_true ‹decide (i1 < ((a.getD 6 default).rows.length : Int)) = true›
    | exact ⟨_, _, rfl⟩
    | exact ⟨_, _, wa, wb, rfl⟩
    | exact ⟨sub a 0 1, sub b 0 1, wa.sub 0 1 (by decide), wb.sub 0 1 (by decide), rfl⟩
    | exact ⟨sub a 1 1, sub b 1 1, wa.sub 1 1 (by decide), wb.sub 1 1 (by decide), rfl⟩
    | exact ⟨sub a 2 1, sub b 2 1, wa.sub 2 1 (by decide), wb.sub 2 1 (by decide), rfl⟩
    | exact ⟨sub a 3 1, sub b 3 1, wa.sub 3 1 (by decide), wb.sub 3 1 (by decide), rfl⟩
    | exact ⟨sub a 4 1, sub b 4 1, wa.sub 4 1 (by decide), wb.sub 4 1 (by decide), rfl⟩
    | exact ⟨sub a 5 1, sub b 5 1, wa.sub 5 1 (by decide), wb.sub 5 1 (by decide), rfl⟩
    | exact ⟨sub a 6 1, sub b 6 1, wa.sub 6 1 (by decide), wb.sub 6 1 (by decide), rfl⟩
    | (have hi : i1 < ((a.getD 6 default).rows.length : Int) := of_decide_eq_true ‹decide (i1 < ((a.getD 6 default).rows.length : Int)) = true›
       have wra1 : WfRow T [.l 3, .l 198] ((a.getD 6 default).rows.getD i1.toNat []) := wA1.row rfl (by omega)
       have wrb1 : WfRow T [.l 3, .l 198] ((b.getD 6 default).rows.getD i1.toNat []) := wB1.row rfl (by omega)
       first
         | exact ⟨_, _, wra1, wrb1, rfl⟩
         | exact ⟨_, _, wra1, wrb1, Nat.lt_of_lt_of_le (Nat.lt_trans (size_row (by omega)) (size_cell (by rw [wa.1]; decide))) (Nat.le_of_lt_succ hs), rfl⟩
         | (exact res_no (fun he => by have e := row_eq wa wb he; subst e; simp_all [eqDs, eqD, str_inj]))
         | (refine ⟨(a.getD 6 default).rows.length - (i1 + 1).toNat, by omega, i1 + 1, ?_, by omega, by omega, rfl, takes_next h11 hi hl1 h41 (row_eq wra1 wrb1 ?_)⟩
            · exact congrArg (fun z : Int => (([.val false [.b true], .ptr 3 1 0, .ptr 4 1 0, .val false [.i .i64 ((a.getD 6 default).rows).length], .val false [.i .i64 z]], [(1, (rowC [.i .i64, .i .i64, .i .i64, .s, .l 103, .l 9, .l 189] a).map fun c => .val false [c]), (1, (rowC [.i .i64, .i .i64, .i .i64, .s, .l 103, .l 9, .l 189] b).map fun c => .val false [c])]) : Snap)) (wrap_next h11 hi lA1)
            · simp_all [eqDs, eqD, str_inj, csD, CV.d, rowC, ofD, argG, sub, List.zipIdx, List.range, List.range.loop]))
    | (have hA1 : (a.getD 6 default).rows = (b.getD 6 default).rows := eq_of_takes hl1 h11 h21 ‹_› h41
       first
         | (refine res_yes ?_; simp_all [eqDs, eqD, str_inj, csD, CV.d, rowC, ofD, argG, sub, List.zipIdx, List.range, List.range.loop]; done)
         | (refine res_iff ?_; simp_all [eqDs, eqD, str_inj, csD, CV.d, rowC, ofD, argG, sub, List.zipIdx, List.range, List.range.loop]; done)
         | (exact res_no (fun he => by have e := row_eq wa wb he; subst e; simp_all [eqDs, eqD, str_inj])))
theorem zero101 : FOk Tryz.prog T 101 (eqFn [.i .i64, .i .i64, .i .i64, .s, .l 103, .l 9, .l 189] 0) := by
  refine fok (env := envL []) (N := 121) tabT envL_nil mixed Tryz.func101 rfl Tryz.call101 Tryz.ntmps101 ?_
  rintro args ⟨a, b, wa, wb, hs, rfl⟩ _
  exact absurd hs (Nat.not_lt_zero _)
theorem all101 (n : Nat) : FOk Tryz.prog T 101 (eqFn [.i .i64, .i .i64, .i .i64, .s, .l 103, .l 9, .l 189] n) := by
  induction n with
  | zero => exact zero101
  | succ n ih => exact step101 n ih
theorem ok101 : FOk Tryz.prog T 101 (eqF [.i .i64, .i .i64, .i .i64, .s, .l 103, .l 9, .l 189]) := FOk.lift (s := fun n => eqFn [.i .i64, .i .i64, .i .i64, .s, .l 103, .l 9, .l 189] n) all101 (fun args ⟨a, b, wa, wb, h⟩ => ⟨SizeOf.sizeOf a + 1, a, b, wa, wb, Nat.lt_succ_self _, h⟩) (fun n => rfl)
/-- spec.EqualValue -/
theorem ok53 : FOk Tryz.prog T 53 (eqG [.i .i64, .i .i64, .i .i64, .s, .l 103, .l 9, .l 189]) := by
  refine fok (env := envL [(95, (eqF [.i .i64, .i .i64, .i .i64, .s, .l 103, .l 9, .l 189]))]) (N := 8) tabT (envL_cons ok95 envL_nil) mixed Tryz.func53 rfl Tryz.call53 Tryz.ntmps53 ?_
  rintro args ⟨a, b, wa, wb, rfl⟩ hwf
  refine ⟨by simp, ?_⟩
  clear hwf
  rw [Tryz.results53]
  repeat' first
    | (refine And.intro ?_ ?_)
    | (intro h; cases h)
    | (intro h; rw [h])
    | (intro h)
  all_goals first
    | (show lowEdges _ = true; kernel_rfl) | (show logOk _ _ = true; kernel_rfl) | trivial | exact Or.inr rfl | exact Or.inl rfl
    | exact ⟨_, _, rfl⟩
    | exact ⟨_, _, wa, wb, rfl⟩
    | exact ⟨sub a 0 1, sub b 0 1, wa.sub 0 1 (by decide), wb.sub 0 1 (by decide), rfl⟩
    | exact ⟨sub a 1 1, sub b 1 1, wa.sub 1 1 (by decide), wb.sub 1 1 (by decide), rfl⟩
    | exact ⟨sub a 2 1, sub b 2 1, wa.sub 2 1 (by decide), wb.sub 2 1 (by decide), rfl⟩
    | exact ⟨sub a 3 1, sub b 3 1, wa.sub 3 1 (by decide), wb.sub 3 1 (by decide), rfl⟩
    | exact ⟨sub a 4 1, sub b 4 1, wa.sub 4 1 (by decide), wb.sub 4 1 (by decide), rfl⟩
    | exact ⟨sub a 5 1, sub b 5 1, wa.sub 5 1 (by decide), wb.sub 5 1 (by decide), rfl⟩
    | exact ⟨sub a 6 1, sub b 6 1, wa.sub 6 1 (by decide), wb.sub 6 1 (by decide), rfl⟩
    | (exact res_no (fun he => by have e := row_eq wa wb he; subst e; simp_all [eqDs, eqD, str_inj]))
    | (exact res_no (fun he => by have e := row_eq wa wb he; subst e; simp_all [eqDs, eqD, str_inj]))
    | (refine res_yes ?_; simp_all [eqDs, eqD, str_inj, csD, CV.d, rowC, ofD, argG, sub, List.zipIdx, List.range, List.range.loop]; done)
    | (refine res_iff ?_; simp_all [eqDs, eqD, str_inj, csD, CV.d, rowC, ofD, argG, sub, List.zipIdx, List.range, List.range.loop]; done)
    | skip
/-- impl.EqualValue -/
theorem ok61 : FOk Tryz.prog T 61 (eqG [.i .i64, .i .i64, .i .i64, .s, .l 103, .l 9, .l 189]) := by
  refine fok (env := envL [(101, (eqF [.i .i64, .i .i64, .i .i64, .s, .l 103, .l 9, .l 189]))]) (N := 8) tabT (envL_cons ok101 envL_nil) mixed Tryz.func61 rfl Tryz.call61 Tryz.ntmps61 ?_
  rintro args ⟨a, b, wa, wb, rfl⟩ hwf
  refine ⟨by simp, ?_⟩
  clear hwf
  rw [Tryz.results61]
  repeat' first
    | (refine And.intro ?_ ?_)
    | (intro h; cases h)
    | (intro h; rw [h])
    | (intro h)
  all_goals first
    | (show lowEdges _ = true; kernel_rfl) | (show logOk _ _ = true; kernel_rfl) | trivial | exact Or.inr rfl | exact Or.inl rfl
    | exact ⟨_, _, rfl⟩
    | exact ⟨_, _, wa, wb, rfl⟩
    | exact ⟨sub a 0 1, sub b 0 1, wa.sub 0 1 (by decide), wb.sub 0 1 (by decide), rfl⟩
    | exact ⟨sub a 1 1, sub b 1 1, wa.sub 1 1 (by decide), wb.sub 1 1 (by decide), rfl⟩
    | exact ⟨sub a 2 1, sub b 2 1, wa.sub 2 1 (by decide), wb.sub 2 1 (by decide), rfl⟩
    | exact ⟨sub a 3 1, sub b 3 1, wa.sub 3 1 (by decide), wb.sub 3 1 (by decide), rfl⟩
    | exact ⟨sub a 4 1, sub b 4 1, wa.sub 4 1 (by decide), wb.sub 4 1 (by decide), rfl⟩
    | exact ⟨sub a 5 1, sub b 5 1, wa.sub 5 1 (by decide), wb.sub 5 1 (by decide), rfl⟩
    | exact ⟨sub a 6 1, sub b 6 1, wa.sub 6 1 (by decide), wb.sub 6 1 (by decide), rfl⟩
    | (exact res_no (fun he => by have e := row_eq wa wb he; subst e; simp_all [eqDs, eqD, str_inj]))
    | (exact res_no (fun he => by have e := row_eq wa wb he; subst e; simp_all [eqDs, eqD, str_inj]))
    | (refine res_yes ?_; simp_all [eqDs, eqD, str_inj, csD, CV.d, rowC, ofD, argG, sub, List.zipIdx, List.range, List.range.loop]; done)
    | (refine res_iff ?_; simp_all [eqDs, eqD, str_inj, csD, CV.d, rowC, ofD, argG, sub, List.zipIdx, List.range, List.range.loop]; done)
    | skip
end Go.Proofs.YtijnlnmoellbaaaGreat.Ab
