/- Comparisons of the program: printed by a program of this claim. -/
import Derived.Test.YtijnlnmoellbaaaGreatEi
namespace Go.Proofs.YtijnlnmoellbaaaGreat.Ab
open Go.RowKit
set_option linter.unusedVariables false
set_option linter.unusedSimpArgs false
set_option maxRecDepth 100000
set_option maxHeartbeats 1000000
/-- spec.l47History -/
theorem ok22 : FOk Tryz.prog T 22 (eqG [.l 90, .l 83, .i .i64]) := by
  refine fok (env := envL [(44, (eqG [.l 90])), (54, (eqS 118))]) (N := 68) tabT (envL_cons ok44 (envL_cons ok54 envL_nil)) mixed Tryz.func22 rfl Tryz.call22 Tryz.ntmps22 ?_
  rintro args ⟨a, b, wa, wb, rfl⟩ hwf
  refine ⟨by simp, ?_⟩
  clear hwf
  have wA0 : WfD T (.l 83) (.l (a.getD 1 default).rows) := wa.rows (j := 1) rfl
  have wB0 : WfD T (.l 83) (.l (b.getD 1 default).rows) := wb.rows (j := 1) rfl
  have lA0 := wA0.len
  rw [Tryz.results22]
  repeat' first
    | (refine And.intro ?_ ?_)
    | (intro h; cases h)
    | (intro h; rw [h])
    | (intro h)
  all_goals first
    | (show lowEdges _ = true; kernel_rfl) | (show logOk _ _ = true; kernel_rfl) | trivial | exact Or.inr rfl | exact Or.inl rfl
    | exact ⟨_, _, rfl⟩
    | exact ⟨_, _, wa, wb, rfl⟩
    | exact ⟨sub a 0 1, sub b 0 1, wa.sub 0 1 (by decide), wb.sub 0 1 (by decide), rfl⟩
    | exact ⟨sub a 1 1, sub b 1 1, wa.sub 1 1 (by decide), wb.sub 1 1 (by decide), rfl⟩
    | exact ⟨sub a 2 1, sub b 2 1, wa.sub 2 1 (by decide), wb.sub 2 1 (by decide), rfl⟩
    | (exact res_no (fun he => by have e := row_eq wa wb he; subst e; simp_all [eqDs, eqD, str_inj]))
    | (exact res_no (fun he => by have e := row_eq wa wb he; subst e; simp_all [eqDs, eqD, str_inj]))
    | (refine res_yes ?_; simp_all [eqDs, eqD, str_inj, csD, CV.d, rowC, ofD, argG, sub, List.zipIdx, List.range, List.range.loop]; done)
    | (refine res_iff ?_; simp_all [eqDs, eqD, str_inj, csD, CV.d, rowC, ofD, argG, sub, List.zipIdx, List.range, List.range.loop]; done)
    | skip
  have hl0 : (a.getD 1 default).rows.length = (b.getD 1 default).rows.length := eq_len ‹(((a.getD 1 default).rows.length : Int) != ((b.getD 1 default).rows.length : Int)) = false›
  refine awp_loop (Q := _) [2, 3, 5] [2, 3] (fun n s => ∃ i : Int, s = ([.ptr 2 1 0, .ptr 3 1 0, .val false [.i .i64 i]], [(1, (rowC [.l 90, .l 83, .i .i64] a).map fun c => .val false [c]), (1, (rowC [.l 90, .l 83, .i .i64] b).map fun c => .val false [c])]) ∧ 0 ≤ i ∧ i ≤ (a.getD 1 default).rows.length ∧ n = (a.getD 1 default).rows.length - i.toNat ∧ (a.getD 1 default).rows.take i.toNat = (b.getD 1 default).rows.take i.toNat) ?_ ?_
  · exact ⟨rfl, (a.getD 1 default).rows.length - 0, _, rfl, by omega, by omega, rfl, rfl⟩
  rintro n0 s ⟨i0, rfl, h10, h20, h30, h40⟩
  repeat' first
    | (refine And.intro ?_ ?_)
    | (intro h; cases h)
    | (intro h; rw [h])
    | (intro h)
  all_goals first
    | (show lowEdges _ = true; kernel_rfl) | (show logOk _ _ = true; kernel_rfl) | trivial | exact Or.inr rfl | exact Or.inl rfl
    | omega
    | exact of_decide_eq_true ‹_›
    | exact hl0 ▸ of_decide_eq_true ‹decide (i0 < ((a.getD 1 default).rows.length : Int)) = true›
    | exact ⟨_, _, rfl⟩
    | exact ⟨_, _, wa, wb, rfl⟩
    | exact ⟨sub a 0 1, sub b 0 1, wa.sub 0 1 (by decide), wb.sub 0 1 (by decide), rfl⟩
    | exact ⟨sub a 1 1, sub b 1 1, wa.sub 1 1 (by decide), wb.sub 1 1 (by decide), rfl⟩
    | exact ⟨sub a 2 1, sub b 2 1, wa.sub 2 1 (by decide), wb.sub 2 1 (by decide), rfl⟩
    | (have hi : i0 < ((a.getD 1 default).rows.length : Int) := of_decide_eq_true ‹decide (i0 < ((a.getD 1 default).rows.length : Int)) = true›
       have wra0 : WfRow T [.i .i64, .l 118, .l 118] ((a.getD 1 default).rows.getD i0.toNat []) := wA0.row rfl (by omega)
       have wrb0 : WfRow T [.i .i64, .l 118, .l 118] ((b.getD 1 default).rows.getD i0.toNat []) := wB0.row rfl (by omega)
       first
         | exact ⟨_, _, wra0, wrb0, rfl⟩
         | exact ⟨_, _, wra0, wrb0, Nat.lt_of_lt_of_le (Nat.lt_trans (size_row (by omega)) (size_cell (by rw [wa.1]; decide))) (Nat.le_of_lt_succ hs), rfl⟩
         | (exact res_no (fun he => by have e := row_eq wa wb he; subst e; simp_all [eqDs, eqD, str_inj]))
         | (refine ⟨(a.getD 1 default).rows.length - (i0 + 1).toNat, by omega, i0 + 1, ?_, by omega, by omega, rfl, takes_next h10 hi hl0 h40 (row_eq wra0 wrb0 ?_)⟩
            · exact congrArg (fun z : Int => (([.ptr 2 1 0, .ptr 3 1 0, .val false [.i .i64 z]], [(1, (rowC [.l 90, .l 83, .i .i64] a).map fun c => .val false [c]), (1, (rowC [.l 90, .l 83, .i .i64] b).map fun c => .val false [c])]) : Snap)) (wrap_next h10 hi lA0)
            · simp_all [eqDs, eqD, str_inj, csD, CV.d, rowC, ofD, argG, sub, List.zipIdx, List.range, List.range.loop]))
    | (have hA0 : (a.getD 1 default).rows = (b.getD 1 default).rows := eq_of_takes hl0 h10 h20 ‹_› h40
       first
         | (refine res_yes ?_; simp_all [eqDs, eqD, str_inj, csD, CV.d, rowC, ofD, argG, sub, List.zipIdx, List.range, List.range.loop]; done)
         | (refine res_iff ?_; simp_all [eqDs, eqD, str_inj, csD, CV.d, rowC, ofD, argG, sub, List.zipIdx, List.range, List.range.loop]; done)
         | (exact res_no (fun he => by have e := row_eq wa wb he; subst e; simp_all [eqDs, eqD, str_inj])))
/-- impl.equalHistory -/
theorem ok26 : FOk Tryz.prog T 26 (eqG [.l 90, .l 83, .i .i64]) := by
  refine fok (env := envL [(65, (eqS 118)), (62, (eqG [.l 90]))]) (N := 65) tabT (envL_cons ok65 (envL_cons ok62 envL_nil)) mixed Tryz.func26 rfl Tryz.call26 Tryz.ntmps26 ?_
  rintro args ⟨a, b, wa, wb, rfl⟩ hwf
  refine ⟨by simp, ?_⟩
  clear hwf
  have wA0 : WfD T (.l 83) (.l (a.getD 1 default).rows) := wa.rows (j := 1) rfl
  have wB0 : WfD T (.l 83) (.l (b.getD 1 default).rows) := wb.rows (j := 1) rfl
  have lA0 := wA0.len
  rw [Tryz.results26]
  repeat' first
    | (refine And.intro ?_ ?_)
    | (intro h; cases h)
    | (intro h; rw [h])
    | (intro h)
  all_goals first
    | (show lowEdges _ = true; kernel_rfl) | (show logOk _ _ = true; kernel_rfl) | trivial | exact Or.inr rfl | exact Or.inl rfl
    | exact ⟨_, _, rfl⟩
    | exact ⟨_, _, wa, wb, rfl⟩
    | exact ⟨sub a 0 1, sub b 0 1, wa.sub 0 1 (by decide), wb.sub 0 1 (by decide), rfl⟩
    | exact ⟨sub a 1 1, sub b 1 1, wa.sub 1 1 (by decide), wb.sub 1 1 (by decide), rfl⟩
    | exact ⟨sub a 2 1, sub b 2 1, wa.sub 2 1 (by decide), wb.sub 2 1 (by decide), rfl⟩
    | (exact res_no (fun he => by have e := row_eq wa wb he; subst e; simp_all [eqDs, eqD, str_inj]))
    | (exact res_no (fun he => by have e := row_eq wa wb he; subst e; simp_all [eqDs, eqD, str_inj]))
    | (refine res_yes ?_; simp_all [eqDs, eqD, str_inj, csD, CV.d, rowC, ofD, argG, sub, List.zipIdx, List.range, List.range.loop]; done)
    | (refine res_iff ?_; simp_all [eqDs, eqD, str_inj, csD, CV.d, rowC, ofD, argG, sub, List.zipIdx, List.range, List.range.loop]; done)
    | skip
  have hl0 : (a.getD 1 default).rows.length = (b.getD 1 default).rows.length := eq_len ‹(((a.getD 1 default).rows.length : Int) != ((b.getD 1 default).rows.length : Int)) = false›
  refine awp_loop (Q := _) [2, 3, 17, 18] [2, 3] (fun n s => ∃ i : Int, s = ([.ptr 2 1 0, .ptr 3 1 0, .val false [.i .i64 ((a.getD 1 default).rows).length], .val false [.i .i64 i]], [(1, (rowC [.l 90, .l 83, .i .i64] a).map fun c => .val false [c]), (1, (rowC [.l 90, .l 83, .i .i64] b).map fun c => .val false [c])]) ∧ 0 ≤ i ∧ i ≤ (a.getD 1 default).rows.length ∧ n = (a.getD 1 default).rows.length - i.toNat ∧ (a.getD 1 default).rows.take i.toNat = (b.getD 1 default).rows.take i.toNat) ?_ ?_
  · exact ⟨rfl, (a.getD 1 default).rows.length - 0, _, rfl, by omega, by omega, rfl, rfl⟩
  rintro n0 s ⟨i0, rfl, h10, h20, h30, h40⟩
  repeat' first
    | (refine And.intro ?_ ?_)
    | (intro h; cases h)
    | (intro h; rw [h])
    | (intro h)
  all_goals first
    | (show lowEdges _ = true; kernel_rfl) | (show logOk _ _ = true; kernel_rfl) | trivial | exact Or.inr rfl | exact Or.inl rfl
    | omega
    | exact of_decide_eq_true ‹_›
    | exact hl0 ▸ of_decide_eq_true ‹decide (i0 < ((a.getD 1 default).rows.length : Int)) = true›
    | exact ⟨_, _, rfl⟩
    | exact ⟨_, _, wa, wb, rfl⟩
    | exact ⟨sub a 0 1, sub b 0 1, wa.sub 0 1 (by decide), wb.sub 0 1 (by decide), rfl⟩
    | exact ⟨sub a 1 1, sub b 1 1, wa.sub 1 1 (by decide), wb.sub 1 1 (by decide), rfl⟩
    | exact ⟨sub a 2 1, sub b 2 1, wa.sub 2 1 (by decide), wb.sub 2 1 (by decide), rfl⟩
    | (have hi : i0 < ((a.getD 1 default).rows.length : Int) := of_decide_eq_true ‹decide (i0 < ((a.getD 1 default).rows.length : Int)) = true›
       have wra0 : WfRow T [.i .i64, .l 118, .l 118] ((a.getD 1 default).rows.getD i0.toNat []) := wA0.row rfl (by omega)
       have wrb0 : WfRow T [.i .i64, .l 118, .l 118] ((b.getD 1 default).rows.getD i0.toNat []) := wB0.row rfl (by omega)
       first
         | exact ⟨_, _, wra0, wrb0, rfl⟩
         | exact ⟨_, _, wra0, wrb0, Nat.lt_of_lt_of_le (Nat.lt_trans (size_row (by omega)) (size_cell (by rw [wa.1]; decide))) (Nat.le_of_lt_succ hs), rfl⟩
         | (exact res_no (fun he => by have e := row_eq wa wb he; subst e; simp_all [eqDs, eqD, str_inj]))
         | (refine ⟨(a.getD 1 default).rows.length - (i0 + 1).toNat, by omega, i0 + 1, ?_, by omega, by omega, rfl, takes_next h10 hi hl0 h40 (row_eq wra0 wrb0 ?_)⟩
            · exact congrArg (fun z : Int => (([.ptr 2 1 0, .ptr 3 1 0, .val false [.i .i64 ((a.getD 1 default).rows).length], .val false [.i .i64 z]], [(1, (rowC [.l 90, .l 83, .i .i64] a).map fun c => .val false [c]), (1, (rowC [.l 90, .l 83, .i .i64] b).map fun c => .val false [c])]) : Snap)) (wrap_next h10 hi lA0)
            · simp_all [eqDs, eqD, str_inj, csD, CV.d, rowC, ofD, argG, sub, List.zipIdx, List.range, List.range.loop]))
    | (have hA0 : (a.getD 1 default).rows = (b.getD 1 default).rows := eq_of_takes hl0 h10 h20 ‹_› h40
       first
         | (refine res_yes ?_; simp_all [eqDs, eqD, str_inj, csD, CV.d, rowC, ofD, argG, sub, List.zipIdx, List.range, List.range.loop]; done)
         | (refine res_iff ?_; simp_all [eqDs, eqD, str_inj, csD, CV.d, rowC, ofD, argG, sub, List.zipIdx, List.range, List.range.loop]; done)
         | (exact res_no (fun he => by have e := row_eq wa wb he; subst e; simp_all [eqDs, eqD, str_inj])))
/-- spec.EqualSession -/
theorem ok6 : FOk Tryz.prog T 6 (eqG [.l 90, .i .i64, .i .i64, .l 116, .l 153, .l 105, .i .i64, .i .i64, .i .i64, .l 90, .l 83, .i .i64]) := by
  refine fok (env := envL [(21, (eqG [.l 90, .i .i64, .i .i64, .l 116, .l 153, .l 105, .i .i64, .i .i64, .i .i64])), (22, (eqG [.l 90, .l 83, .i .i64]))]) (N := 17) tabT (envL_cons ok21 (envL_cons ok22 envL_nil)) mixed Tryz.func6 rfl Tryz.call6 Tryz.ntmps6 ?_
  rintro args ⟨a, b, wa, wb, rfl⟩ hwf
  refine ⟨by simp, ?_⟩
  clear hwf
  rw [Tryz.results6]
  repeat' first
    | (refine And.intro ?_ ?_)
    | (intro h; cases h)
    | (intro h; rw [h])
    | (intro h)
  all_goals first
    | (show lowEdges _ = true; kernel_rfl) | (show logOk _ _ = true; kernel_rfl) | trivial | exact Or.inr rfl | exact Or.inl rfl
    | exact ⟨_, _, rfl⟩
    | exact ⟨_, _, wa, wb, rfl⟩
    | exact ⟨sub a 0 9, sub b 0 9, wa.sub 0 9 (by decide), wb.sub 0 9 (by decide), rfl⟩
    | exact ⟨sub a 9 3, sub b 9 3, wa.sub 9 3 (by decide), wb.sub 9 3 (by decide), rfl⟩
    | (exact res_no (fun he => by have e := row_eq wa wb he; subst e; simp_all [eqDs, eqD, str_inj]))
    | (exact res_no (fun he => by have e := row_eq wa wb he; subst e; simp_all [eqDs, eqD, str_inj]))
    | (refine res_yes ?_; simp_all [eqDs, eqD, str_inj, csD, CV.d, rowC, ofD, argG, sub, List.zipIdx, List.range, List.range.loop]; done)
    | (refine res_iff ?_; simp_all [eqDs, eqD, str_inj, csD, CV.d, rowC, ofD, argG, sub, List.zipIdx, List.range, List.range.loop]; done)
    | skip
/-- impl.EqualSession -/
theorem ok8 : FOk Tryz.prog T 8 (eqG [.l 90, .i .i64, .i .i64, .l 116, .l 153, .l 105, .i .i64, .i .i64, .i .i64, .l 90, .l 83, .i .i64]) := by
  refine fok (env := envL [(25, (eqG [.l 90, .i .i64, .i .i64, .l 116, .l 153, .l 105, .i .i64, .i .i64, .i .i64])), (26, (eqG [.l 90, .l 83, .i .i64]))]) (N := 17) tabT (envL_cons ok25 (envL_cons ok26 envL_nil)) mixed Tryz.func8 rfl Tryz.call8 Tryz.ntmps8 ?_
  rintro args ⟨a, b, wa, wb, rfl⟩ hwf
  refine ⟨by simp, ?_⟩
  clear hwf
  rw [Tryz.results8]
  repeat' first
    | (refine And.intro ?_ ?_)
    | (intro h; cases h)
    | (intro h; rw [h])
    | (intro h)
  all_goals first
    | (show lowEdges _ = true; kernel_rfl) | (show logOk _ _ = true; kernel_rfl) | trivial | exact Or.inr rfl | exact Or.inl rfl
    | exact ⟨_, _, rfl⟩
    | exact ⟨_, _, wa, wb, rfl⟩
    | exact ⟨sub a 0 9, sub b 0 9, wa.sub 0 9 (by decide), wb.sub 0 9 (by decide), rfl⟩
    | exact ⟨sub a 9 3, sub b 9 3, wa.sub 9 3 (by decide), wb.sub 9 3 (by decide), rfl⟩
    | (exact res_no (fun he => by have e := row_eq wa wb he; subst e; simp_all [eqDs, eqD, str_inj]))
    | (exact res_no (fun he => by have e := row_eq wa wb he; subst e; simp_all [eqDs, eqD, str_inj]))
    | (refine res_yes ?_; simp_all [eqDs, eqD, str_inj, csD, CV.d, rowC, ofD, argG, sub, List.zipIdx, List.range, List.range.loop]; done)
    | (refine res_iff ?_; simp_all [eqDs, eqD, str_inj, csD, CV.d, rowC, ofD, argG, sub, List.zipIdx, List.range, List.range.loop]; done)
    | skip
end Go.Proofs.YtijnlnmoellbaaaGreat.Ab
