/- Comparisons of the program: printed by a program of this claim. -/
import Derived.Test.YtijnlnmoellbaaaEf
namespace Go.Proofs.Ytijnlnmoellbaaa.Ab
open Go.RowKit
set_option linter.unusedVariables false
set_option linter.unusedSimpArgs false
set_option maxRecDepth 100000
/-- spec.EqualNotebook -/
theorem ok49 : FOk Try.prog T 49 (eqG [.l 146]) := by
  refine fok (env := envL []) (N := 31) tabT envL_nil mixed Try.func49 rfl Try.call49 Try.ntmps49 ?_
  rintro args ⟨a, b, wa, wb, rfl⟩ hwf
  refine ⟨by simp, ?_⟩
  clear hwf
  have wA0 : WfD T (.l 146) (.l (a.getD 0 default).rows) := wa.rows (j := 0) rfl
  have wB0 : WfD T (.l 146) (.l (b.getD 0 default).rows) := wb.rows (j := 0) rfl
  have lA0 := wA0.len
  rw [Try.results49]
  repeat' first
    | (refine And.intro ?_ ?_)
    | (intro h; cases h)
    | (intro h; rw [h])
    | (intro h)
  all_goals first
    | (show lowEdges _ = true; kernel_rfl) | (show logOk _ _ = true; kernel_rfl) | trivial | exact Or.inr rfl | exact Or.inl rfl
    | exact ⟨_, _, rfl⟩
    | exact ⟨_, _, wa, wb, rfl⟩
    | exact ⟨sub a 0 1, sub b 0 1, wa.sub 0 1 (by decide), wb.sub 0 1 (by decide), rfl⟩
    | (exact res_no (fun he => by have e := row_eq wa wb he; subst e; simp_all [eqDs, eqD, str_inj]))
    | (exact res_no (fun he => by have e := row_eq wa wb he; subst e; simp_all [eqDs, eqD, str_inj]))
    | (refine res_yes ?_; simp_all [eqDs, eqD, str_inj, csD, CV.d, rowC, ofD, argG, sub, List.zipIdx, List.range, List.range.loop]; done)
    | (refine res_iff ?_; simp_all [eqDs, eqD, str_inj, csD, CV.d, rowC, ofD, argG, sub, List.zipIdx, List.range, List.range.loop]; done)
    | skip
  have hl0 : (a.getD 0 default).rows.length = (b.getD 0 default).rows.length := eq_len ‹(((a.getD 0 default).rows.length : Int) != ((b.getD 0 default).rows.length : Int)) = false›
  refine awp_loop (Q := _) [2, 3, 5] [2, 3] (fun n s => ∃ i : Int, s = ([.ptr 2 1 0, .ptr 3 1 0, .val false [.i .i64 i]], [(1, (rowC [.l 146] a).map fun c => .val false [c]), (1, (rowC [.l 146] b).map fun c => .val false [c])]) ∧ 0 ≤ i ∧ i ≤ (a.getD 0 default).rows.length ∧ n = (a.getD 0 default).rows.length - i.toNat ∧ (a.getD 0 default).rows.take i.toNat = (b.getD 0 default).rows.take i.toNat) ?_ ?_
  · exact ⟨rfl, (a.getD 0 default).rows.length - 0, _, rfl, by omega, by omega, rfl, rfl⟩
  rintro n0 s ⟨i0, rfl, h10, h20, h30, h40⟩
  repeat' first
    | (refine And.intro ?_ ?_)
    | (intro h; cases h)
    | (intro h; rw [h])
    | (intro h)
  all_goals first
    | (show lowEdges _ = true; kernel_rfl) | (show logOk _ _ = true; kernel_rfl) | trivial | exact Or.inr rfl | exact Or.inl rfl
    | omega
    | exact of_decide_eq_true ‹_›
    | exact hl0 ▸ of_decide_eq_true ‹decide (i0 < ((a.getD 0 default).rows.length : Int)) = true›
    | exact ⟨_, _, rfl⟩
    | exact ⟨_, _, wa, wb, rfl⟩
    | exact ⟨sub a 0 1, sub b 0 1, wa.sub 0 1 (by decide), wb.sub 0 1 (by decide), rfl⟩
    | (have hi : i0 < ((a.getD 0 default).rows.length : Int) := of_decide_eq_true ‹decide (i0 < ((a.getD 0 default).rows.length : Int)) = true›
       have wra0 : WfRow T [.i .i64, .i .i64, .i .i64, .s, .s, .i .i64] ((a.getD 0 default).rows.getD i0.toNat []) := wA0.row rfl (by omega)
       have wrb0 : WfRow T [.i .i64, .i .i64, .i .i64, .s, .s, .i .i64] ((b.getD 0 default).rows.getD i0.toNat []) := wB0.row rfl (by omega)
       first
         | exact ⟨_, _, wra0, wrb0, rfl⟩
         | exact ⟨_, _, wra0, wrb0, Nat.lt_of_lt_of_le (Nat.lt_trans (size_row (by omega)) (size_cell (by rw [wa.1]; decide))) (Nat.le_of_lt_succ hs), rfl⟩
         | (exact res_no (fun he => by have e := row_eq wa wb he; subst e; simp_all [eqDs, eqD, str_inj]))
         | (refine ⟨(a.getD 0 default).rows.length - (i0 + 1).toNat, by omega, i0 + 1, ?_, by omega, by omega, rfl, takes_next h10 hi hl0 h40 (row_eq wra0 wrb0 ?_)⟩
            · exact congrArg (fun z : Int => (([.ptr 2 1 0, .ptr 3 1 0, .val false [.i .i64 z]], [(1, (rowC [.l 146] a).map fun c => .val false [c]), (1, (rowC [.l 146] b).map fun c => .val false [c])]) : Snap)) (wrap_next h10 hi lA0)
            · simp_all [eqDs, eqD, str_inj, csD, CV.d, rowC, ofD, argG, sub, List.zipIdx, List.range, List.range.loop]))
    | (have hA0 : (a.getD 0 default).rows = (b.getD 0 default).rows := eq_of_takes hl0 h10 h20 ‹_› h40
       first
         | (refine res_yes ?_; simp_all [eqDs, eqD, str_inj, csD, CV.d, rowC, ofD, argG, sub, List.zipIdx, List.range, List.range.loop]; done)
         | (refine res_iff ?_; simp_all [eqDs, eqD, str_inj, csD, CV.d, rowC, ofD, argG, sub, List.zipIdx, List.range, List.range.loop]; done)
         | (exact res_no (fun he => by have e := row_eq wa wb he; subst e; simp_all [eqDs, eqD, str_inj])))
/-- impl.EqualNotebook -/
theorem ok59 : FOk Try.prog T 59 (eqG [.l 146]) := by
  refine fok (env := envL [(102, (eqS 146))]) (N := 10) tabT (envL_cons ok102 envL_nil) mixed Try.func59 rfl Try.call59 Try.ntmps59 ?_
  rintro args ⟨a, b, wa, wb, rfl⟩ hwf
  refine ⟨by simp, ?_⟩
  clear hwf
  rw [Try.results59]
  repeat' first
    | (refine And.intro ?_ ?_)
    | (intro h; cases h)
    | (intro h; rw [h])
    | (intro h)
  all_goals first
    | (show lowEdges _ = true; kernel_rfl) | (show logOk _ _ = true; kernel_rfl) | trivial | exact Or.inr rfl | exact Or.inl rfl
    | exact ⟨_, _, rfl⟩
    | exact ⟨_, _, wa, wb, rfl⟩
    | exact ⟨sub a 0 1, sub b 0 1, wa.sub 0 1 (by decide), wb.sub 0 1 (by decide), rfl⟩
    | (exact res_no (fun he => by have e := row_eq wa wb he; subst e; simp_all [eqDs, eqD, str_inj]))
    | (exact res_no (fun he => by have e := row_eq wa wb he; subst e; simp_all [eqDs, eqD, str_inj]))
    | (refine res_yes ?_; simp_all [eqDs, eqD, str_inj, csD, CV.d, rowC, ofD, argG, sub, List.zipIdx, List.range, List.range.loop]; done)
    | (refine res_iff ?_; simp_all [eqDs, eqD, str_inj, csD, CV.d, rowC, ofD, argG, sub, List.zipIdx, List.range, List.range.loop]; done)
    | skip
/-- impl.sameRead -/
theorem ok77 : FOk Try.prog T 77 (eqP [.i .i64, .i .i64, .i .i64, .s, .i .i64, .i .i64, .i .i64, .s, .l 76, .l 9, .l 172] 4) := by
  refine fok (env := envL []) (N := 31) tabT envL_nil mixed Try.func77 rfl Try.call77 Try.ntmps77 ?_
  rintro args ⟨a, b, wa, wb, rfl⟩ hwf
  refine ⟨by simp, ?_⟩
  clear hwf
  rw [Try.results77]
  repeat' first
    | (refine And.intro ?_ ?_)
    | (intro h; cases h)
    | (intro h; rw [h])
    | (intro h)
  all_goals first
    | (show lowEdges _ = true; kernel_rfl) | (show logOk _ _ = true; kernel_rfl) | trivial | exact Or.inr rfl | exact Or.inl rfl
    | exact ⟨_, _, rfl⟩
    | exact ⟨sub a 0 1, sub b 0 1, wa.sub 0 1 (by decide), wb.sub 0 1 (by decide), rfl⟩
    | exact ⟨sub a 1 1, sub b 1 1, wa.sub 1 1 (by decide), wb.sub 1 1 (by decide), rfl⟩
    | exact ⟨sub a 2 1, sub b 2 1, wa.sub 2 1 (by decide), wb.sub 2 1 (by decide), rfl⟩
    | exact ⟨sub a 3 1, sub b 3 1, wa.sub 3 1 (by decide), wb.sub 3 1 (by decide), rfl⟩
    | exact ⟨sub a 4 7, sub b 4 7, wa.sub 4 7 (by decide), wb.sub 4 7 (by decide), rfl⟩
    | (refine res_no ?_; simp_all [eqDs, eqD, str_inj, csD, CV.d, rowC, ofD, argG, sub, List.zipIdx, List.range, List.range.loop]; done)
    | (refine res_no ?_; simp_all [eqDs, eqD, str_inj, csD, CV.d, rowC, ofD, argG, sub, List.zipIdx, List.range, List.range.loop]; done)
    | (refine res_yes ?_; simp_all [eqDs, eqD, str_inj, csD, CV.d, rowC, ofD, argG, sub, List.zipIdx, List.range, List.range.loop]; done)
    | (refine res_iff ?_; simp_all [eqDs, eqD, str_inj, csD, CV.d, rowC, ofD, argG, sub, List.zipIdx, List.range, List.range.loop]; done)
    | skip
/-- spec.l16Same -/
theorem ok81 : FOk Try.prog T 81 (eqP [.i .i64, .i .i64, .i .i64, .s, .i .i64, .i .i64, .i .i64, .s, .l 76, .l 9, .l 172] 4) := by
  refine fok (env := envL []) (N := 31) tabT envL_nil mixed Try.func81 rfl Try.call81 Try.ntmps81 ?_
  rintro args ⟨a, b, wa, wb, rfl⟩ hwf
  refine ⟨by simp, ?_⟩
  clear hwf
  rw [Try.results81]
  repeat' first
    | (refine And.intro ?_ ?_)
    | (intro h; cases h)
    | (intro h; rw [h])
    | (intro h)
  all_goals first
    | (show lowEdges _ = true; kernel_rfl) | (show logOk _ _ = true; kernel_rfl) | trivial | exact Or.inr rfl | exact Or.inl rfl
    | exact ⟨_, _, rfl⟩
    | exact ⟨sub a 0 1, sub b 0 1, wa.sub 0 1 (by decide), wb.sub 0 1 (by decide), rfl⟩
    | exact ⟨sub a 1 1, sub b 1 1, wa.sub 1 1 (by decide), wb.sub 1 1 (by decide), rfl⟩
    | exact ⟨sub a 2 1, sub b 2 1, wa.sub 2 1 (by decide), wb.sub 2 1 (by decide), rfl⟩
    | exact ⟨sub a 3 1, sub b 3 1, wa.sub 3 1 (by decide), wb.sub 3 1 (by decide), rfl⟩
    | exact ⟨sub a 4 7, sub b 4 7, wa.sub 4 7 (by decide), wb.sub 4 7 (by decide), rfl⟩
    | (refine res_no ?_; simp_all [eqDs, eqD, str_inj, csD, CV.d, rowC, ofD, argG, sub, List.zipIdx, List.range, List.range.loop]; done)
    | (refine res_no ?_; simp_all [eqDs, eqD, str_inj, csD, CV.d, rowC, ofD, argG, sub, List.zipIdx, List.range, List.range.loop]; done)
    | (refine res_yes ?_; simp_all [eqDs, eqD, str_inj, csD, CV.d, rowC, ofD, argG, sub, List.zipIdx, List.range, List.range.loop]; done)
    | (refine res_iff ?_; simp_all [eqDs, eqD, str_inj, csD, CV.d, rowC, ofD, argG, sub, List.zipIdx, List.range, List.range.loop]; done)
    | skip
/-- spec.l3Same -/
theorem step97 (n : Nat) (hn : FOk Try.prog T 97 (eqFn [.i .i64, .i .i64, .i .i64, .s, .l 76, .l 9, .l 172] n)) : FOk Try.prog T 97 (eqFn [.i .i64, .i .i64, .i .i64, .s, .l 76, .l 9, .l 172] (n + 1)) := by
  refine fok (env := envL [(143, (eqS 9)), (97, (eqFn [.i .i64, .i .i64, .i .i64, .s, .l 76, .l 9, .l 172] n)), (52, (eqS 3)), (144, (eqS 192))]) (N := 121) tabT (envL_cons ok143 (envL_cons hn (envL_cons ok52 (envL_cons ok144 envL_nil)))) mixed Try.func97 rfl Try.call97 Try.ntmps97 ?_
  rintro args ⟨a, b, wa, wb, hs, rfl⟩ hwf
  refine ⟨by simp, ?_⟩
  clear hwf
  have wA0 : WfD T (.l 76) (.l (a.getD 4 default).rows) := wa.rows (j := 4) rfl
  have wB0 : WfD T (.l 76) (.l (b.getD 4 default).rows) := wb.rows (j := 4) rfl
  have lA0 := wA0.len
  have wA1 : WfD T (.l 172) (.l (a.getD 6 default).rows) := wa.rows (j := 6) rfl
  have wB1 : WfD T (.l 172) (.l (b.getD 6 default).rows) := wb.rows (j := 6) rfl
  have lA1 := wA1.len
  rw [Try.results97]
  repeat' first
    | (refine And.intro ?_ ?_)
    | (intro h; cases h)
    | (intro h; rw [h])
    | (intro h)
  all_goals first
    | (show lowEdges _ = true; kernel_rfl) | (show logOk _ _ = true; kernel_rfl) | trivial | exact Or.inr rfl | exact Or.inl rfl
    | exact ⟨_, _, rfl⟩
    | exact ⟨_, _, wa, wb, rfl⟩
    | exact ⟨sub a 0 1, sub b 0 1, wa.sub 0 1 (by decide), wb.sub 0 1 (by decide), rfl⟩
    | exact ⟨sub a 1 1, sub b 1 1, wa.sub 1 1 (by decide), wb.sub 1 1 (by decide), rfl⟩
    | exact ⟨sub a 2 1, sub b 2 1, wa.sub 2 1 (by decide), wb.sub 2 1 (by decide), rfl⟩
    | exact ⟨sub a 3 1, sub b 3 1, wa.sub 3 1 (by decide), wb.sub 3 1 (by decide), rfl⟩
    | exact ⟨sub a 4 1, sub b 4 1, wa.sub 4 1 (by decide), wb.sub 4 1 (by decide), rfl⟩
    | exact ⟨sub a 5 1, sub b 5 1, wa.sub 5 1 (by decide), wb.sub 5 1 (by decide), rfl⟩
    | exact ⟨sub a 6 1, sub b 6 1, wa.sub 6 1 (by decide), wb.sub 6 1 (by decide), rfl⟩
    | (exact res_no (fun he => by have e := row_eq wa wb he; subst e; simp_all [eqDs, eqD, str_inj]))
    | (exact res_no (fun he => by have e := row_eq wa wb he; subst e; simp_all [eqDs, eqD, str_inj]))
    | (refine res_yes ?_; simp_all [eqDs, eqD, str_inj, csD, CV.d, rowC, ofD, argG, sub, List.zipIdx, List.range, List.range.loop]; done)
    | (refine res_iff ?_; simp_all [eqDs, eqD, str_inj, csD, CV.d, rowC, ofD, argG, sub, List.zipIdx, List.range, List.range.loop]; done)
    | skip
  have hl0 : (a.getD 4 default).rows.length = (b.getD 4 default).rows.length := eq_len ‹(((a.getD 4 default).rows.length : Int) != ((b.getD 4 default).rows.length : Int)) = false›
  refine awp_loop (Q := _) [2, 3, 4, 7] [3, 4] (fun n s => ∃ i : Int, s = ([.val false [.b true], .ptr 3 1 0, .ptr 4 1 0, .val false [.i .i64 i]], [(1, (rowC [.i .i64, .i .i64, .i .i64, .s, .l 76, .l 9, .l 172] a).map fun c => .val false [c]), (1, (rowC [.i .i64, .i .i64, .i .i64, .s, .l 76, .l 9, .l 172] b).map fun c => .val false [c])]) ∧ 0 ≤ i ∧ i ≤ (a.getD 4 default).rows.length ∧ n = (a.getD 4 default).rows.length - i.toNat ∧ (a.getD 4 default).rows.take i.toNat = (b.getD 4 default).rows.take i.toNat) ?_ ?_
  · exact ⟨rfl, (a.getD 4 default).rows.length - 0, _, rfl, by omega, by omega, rfl, rfl⟩
  rintro n0 s ⟨i0, rfl, h10, h20, h30, h40⟩
  repeat' first
    | (refine And.intro ?_ ?_)
    | (intro h; cases h)
    | (intro h; rw [h])
    | (intro h)
  all_goals first
    | (show lowEdges _ = true; kernel_rfl) | (show logOk _ _ = true; kernel_rfl) | trivial | exact Or.inr rfl | exact Or.inl rfl
    | omega
    | exact of_decide_eq_true ‹_›
    | exact hl0 ▸ of_decide_eq_true ‹decide (i0 < ((a.getD 4 default).rows.length : Int)) = true›
    | exact ⟨_, _, rfl⟩
    | exact ⟨_, _, wa, wb, rfl⟩
    | exact ⟨sub a 0 1, sub b 0 1, wa.sub 0 1 (by decide), wb.sub 0 1 (by decide), rfl⟩
    | exact ⟨sub a 1 1, sub b 1 1, wa.sub 1 1 (by decide), wb.sub 1 1 (by decide), rfl⟩
    | exact ⟨sub a 2 1, sub b 2 1, wa.sub 2 1 (by decide), wb.sub 2 1 (by decide), rfl⟩
    | exact ⟨sub a 3 1, sub b 3 1, wa.sub 3 1 (by decide), wb.sub 3 1 (by decide), rfl⟩
    | exact ⟨sub a 4 1, sub b 4 1, wa.sub 4 1 (by decide), wb.sub 4 1 (by decide), rfl⟩
    | exact ⟨sub a 5 1, sub b 5 1, wa.sub 5 1 (by decide), wb.sub 5 1 (by decide), rfl⟩
    | exact ⟨sub a 6 1, sub b 6 1, wa.sub 6 1 (by decide), wb.sub 6 1 (by decide), rfl⟩
    | (have hi : i0 < ((a.getD 4 default).rows.length : Int) := of_decide_eq_true ‹decide (i0 < ((a.getD 4 default).rows.length : Int)) = true›
       have wra0 : WfRow T [.i .i64, .i .i64, .i .i64, .s, .l 76, .l 9, .l 172] ((a.getD 4 default).rows.getD i0.toNat []) := wA0.row rfl (by omega)
       have wrb0 : WfRow T [.i .i64, .i .i64, .i .i64, .s, .l 76, .l 9, .l 172] ((b.getD 4 default).rows.getD i0.toNat []) := wB0.row rfl (by omega)
       first
         | exact ⟨_, _, wra0, wrb0, rfl⟩
         | exact ⟨_, _, wra0, wrb0, Nat.lt_of_lt_of_le (Nat.lt_trans (size_row (by omega)) (size_cell (by rw [wa.1]; decide))) (Nat.le_of_lt_succ hs), rfl⟩
         | (exact res_no (fun he => by have e := row_eq wa wb he; subst e; simp_all [eqDs, eqD, str_inj]))
         | (refine ⟨(a.getD 4 default).rows.length - (i0 + 1).toNat, by omega, i0 + 1, ?_, by omega, by omega, rfl, takes_next h10 hi hl0 h40 (row_eq wra0 wrb0 ?_)⟩
            · exact congrArg (fun z : Int => (([.val false [.b true], .ptr 3 1 0, .ptr 4 1 0, .val false [.i .i64 z]], [(1, (rowC [.i .i64, .i .i64, .i .i64, .s, .l 76, .l 9, .l 172] a).map fun c => .val false [c]), (1, (rowC [.i .i64, .i .i64, .i .i64, .s, .l 76, .l 9, .l 172] b).map fun c => .val false [c])]) : Snap)) (wrap_next h10 hi lA0)
            · simp_all [eqDs, eqD, str_inj, csD, CV.d, rowC, ofD, argG, sub, List.zipIdx, List.range, List.range.loop]))
    | (have hA0 : (a.getD 4 default).rows = (b.getD 4 default).rows := eq_of_takes hl0 h10 h20 ‹_› h40
       first
         | (refine res_yes ?_; simp_all [eqDs, eqD, str_inj, csD, CV.d, rowC, ofD, argG, sub, List.zipIdx, List.range, List.range.loop]; done)
         | (refine res_iff ?_; simp_all [eqDs, eqD, str_inj, csD, CV.d, rowC, ofD, argG, sub, List.zipIdx, List.range, List.range.loop]; done)
         | (exact res_no (fun he => by have e := row_eq wa wb he; subst e; simp_all [eqDs, eqD, str_inj])))
    | skip
  have hA0 : (a.getD 4 default).rows = (b.getD 4 default).rows := eq_of_takes hl0 h10 h20 ‹decide (i0 < ((a.getD 4 default).rows.length : Int)) = false› h40
  have hl1 : (a.getD 6 default).rows.length = (b.getD 6 default).rows.length := eq_len ‹(((a.getD 6 default).rows.length : Int) != ((b.getD 6 default).rows.length : Int)) = false›
  refine awp_loop (Q := _) [2, 3, 4, 8] [3, 4] (fun n s => ∃ i : Int, s = ([.val false [.b true], .ptr 3 1 0, .ptr 4 1 0, .val false [.i .i64 i]], [(1, (rowC [.i .i64, .i .i64, .i .i64, .s, .l 76, .l 9, .l 172] a).map fun c => .val false [c]), (1, (rowC [.i .i64, .i .i64, .i .i64, .s, .l 76, .l 9, .l 172] b).map fun c => .val false [c])]) ∧ 0 ≤ i ∧ i ≤ (a.getD 6 default).rows.length ∧ n = (a.getD 6 default).rows.length - i.toNat ∧ (a.getD 6 default).rows.take i.toNat = (b.getD 6 default).rows.take i.toNat) ?_ ?_
  · exact ⟨rfl, (a.getD 6 default).rows.length - 0, _, rfl, by omega, by omega, rfl, rfl⟩
  rintro n1 s ⟨i1, rfl, h11, h21, h31, h41⟩
  repeat' first
    | (refine And.intro ?_ ?_)
    | (intro h; cases h)
    | (intro h; rw [h])
    | (intro h)
  all_goals first
    | (show lowEdges _ = true; kernel_rfl) | (show logOk _ _ = true; kernel_rfl) | trivial | exact Or.inr rfl | exact Or.inl rfl
    | omega
    | exact of_decide_eq_true ‹_›
    | exact hl1 ▸ of_decide_eq_true ‹decide (i1 < ((a.getD 6 default).rows.length : Int)) = true›
    | exact ⟨_, _, rfl⟩
    | exact ⟨_, _, wa, wb, rfl⟩
    | exact ⟨sub a 0 1, sub b 0 1, wa.sub 0 1 (by decide), wb.sub 0 1 (by decide), rfl⟩
    | exact ⟨sub a 1 1, sub b 1 1, wa.sub 1 1 (by decide), wb.sub 1 1 (by decide), rfl⟩
    | exact ⟨sub a 2 1, sub b 2 1, wa.sub 2 1 (by decide), wb.sub 2 1 (by decide), rfl⟩
    | exact ⟨sub a 3 1, sub b 3 1, wa.sub 3 1 (by decide), wb.sub 3 1 (by decide), rfl⟩
    | exact ⟨sub a 4 1, sub b 4 1, wa.sub 4 1 (by decide), wb.sub 4 1 (by decide), rfl⟩
    | exact ⟨sub a 5 1, sub b 5 1, wa.sub 5 1 (by decide), wb.sub 5 1 (by decide), rfl⟩
    | exact ⟨sub a 6 1, sub b 6 1, wa.sub 6 1 (by decide), wb.sub 6 1 (by decide), rfl⟩
    | (have hi : i1 < ((a.getD 6 default).rows.length : Int) := of_decide_eq_true ‹decide (i1 < ((a.getD 6 default).rows.length : Int)) = true›
       have wra1 : WfRow T [.l 3, .l 192] ((a.getD 6 default).rows.getD i1.toNat []) := wA1.row rfl (by omega)
       have wrb1 : WfRow T [.l 3, .l 192] ((b.getD 6 default).rows.getD i1.toNat []) := wB1.row rfl (by omega)
       first
         | exact ⟨_, _, wra1, wrb1, rfl⟩
         | exact ⟨_, _, wra1, wrb1, Nat.lt_of_lt_of_le (Nat.lt_trans (size_row (by omega)) (size_cell (by rw [wa.1]; decide))) (Nat.le_of_lt_succ hs), rfl⟩
         | (exact res_no (fun he => by have e := row_eq wa wb he; subst e; simp_all [eqDs, eqD, str_inj]))
         | (refine ⟨(a.getD 6 default).rows.length - (i1 + 1).toNat, by omega, i1 + 1, ?_, by omega, by omega, rfl, takes_next h11 hi hl1 h41 (row_eq wra1 wrb1 ?_)⟩
            · exact congrArg (fun z : Int => (([.val false [.b true], .ptr 3 1 0, .ptr 4 1 0, .val false [.i .i64 z]], [(1, (rowC [.i .i64, .i .i64, .i .i64, .s, .l 76, .l 9, .l 172] a).map fun c => .val false [c]), (1, (rowC [.i .i64, .i .i64, .i .i64, .s, .l 76, .l 9, .l 172] b).map fun c => .val false [c])]) : Snap)) (wrap_next h11 hi lA1)
            · simp_all [eqDs, eqD, str_inj, csD, CV.d, rowC, ofD, argG, sub, List.zipIdx, List.range, List.range.loop]))
    | (have hA1 : (a.getD 6 default).rows = (b.getD 6 default).rows := eq_of_takes hl1 h11 h21 ‹_› h41
       first
         | (refine res_yes ?_; simp_all [eqDs, eqD, str_inj, csD, CV.d, rowC, ofD, argG, sub, List.zipIdx, List.range, List.range.loop]; done)
         | (refine res_iff ?_; simp_all [eqDs, eqD, str_inj, csD, CV.d, rowC, ofD, argG, sub, List.zipIdx, List.range, List.range.loop]; done)
         | (exact res_no (fun he => by have e := row_eq wa wb he; subst e; simp_all [eqDs, eqD, str_inj])))
theorem zero97 : FOk Try.prog T 97 (eqFn [.i .i64, .i .i64, .i .i64, .s, .l 76, .l 9, .l 172] 0) := by
  refine fok (env := envL []) (N := 121) tabT envL_nil mixed Try.func97 rfl Try.call97 Try.ntmps97 ?_
  rintro args ⟨a, b, wa, wb, hs, rfl⟩ _
  exact absurd hs (Nat.not_lt_zero _)
theorem all97 (n : Nat) : FOk Try.prog T 97 (eqFn [.i .i64, .i .i64, .i .i64, .s, .l 76, .l 9, .l 172] n) := by
  induction n with
  | zero => exact zero97
  | succ n ih => exact step97 n ih
theorem ok97 : FOk Try.prog T 97 (eqF [.i .i64, .i .i64, .i .i64, .s, .l 76, .l 9, .l 172]) := FOk.lift (s := fun n => eqFn [.i .i64, .i .i64, .i .i64, .s, .l 76, .l 9, .l 172] n) all97 (fun args ⟨a, b, wa, wb, h⟩ => ⟨SizeOf.sizeOf a + 1, a, b, wa, wb, Nat.lt_succ_self _, h⟩) (fun n => rfl)
/-- impl.equal -/
theorem step101 (n : Nat) (hn : FOk Try.prog T 101 (eqFn [.i .i64, .i .i64, .i .i64, .s, .l 76, .l 9, .l 172] n)) : FOk Try.prog T 101 (eqFn [.i .i64, .i .i64, .i .i64, .s, .l 76, .l 9, .l 172] (n + 1)) := by
  refine fok (env := envL [(149, (eqS 9)), (101, (eqFn [.i .i64, .i .i64, .i .i64, .s, .l 76, .l 9, .l 172] n)), (57, (eqS 3)), (150, (eqS 192))]) (N := 121) tabT (envL_cons ok149 (envL_cons hn (envL_cons ok57 (envL_cons ok150 envL_nil)))) mixed Try.func101 rfl Try.call101 Try.ntmps101 ?_
  rintro args ⟨a, b, wa, wb, hs, rfl⟩ hwf
  refine ⟨by simp, ?_⟩
  clear hwf
  have wA0 : WfD T (.l 76) (.l (a.getD 4 default).rows) := wa.rows (j := 4) rfl
  have wB0 : WfD T (.l 76) (.l (b.getD 4 default).rows) := wb.rows (j := 4) rfl
  have lA0 := wA0.len
  have wA1 : WfD T (.l 172) (.l (a.getD 6 default).rows) := wa.rows (j := 6) rfl
  have wB1 : WfD T (.l 172) (.l (b.getD 6 default).rows) := wb.rows (j := 6) rfl
  have lA1 := wA1.len
  rw [Try.results101]
  repeat' first
    | (refine And.intro ?_ ?_)
    | (intro h; cases h)
    | (intro h; rw [h])
    | (intro h)
  all_goals first
    | (show lowEdges _ = true; kernel_rfl) | (show logOk _ _ = true; kernel_rfl) | trivial | exact Or.inr rfl | exact Or.inl rfl
    | exact ⟨_, _, rfl⟩
    | exact ⟨_, _, wa, wb, rfl⟩
    | exact ⟨sub a 0 1, sub b 0 1, wa.sub 0 1 (by decide), wb.sub 0 1 (by decide), rfl⟩
    | exact ⟨sub a 1 1, sub b 1 1, wa.sub 1 1 (by decide), wb.sub 1 1 (by decide), rfl⟩
    | exact ⟨sub a 2 1, sub b 2 1, wa.sub 2 1 (by decide), wb.sub 2 1 (by decide), rfl⟩
    | exact ⟨sub a 3 1, sub b 3 1, wa.sub 3 1 (by decide), wb.sub 3 1 (by decide), rfl⟩
    | exact ⟨sub a 4 1, sub b 4 1, wa.sub 4 1 (by decide), wb.sub 4 1 (by decide), rfl⟩
    | exact ⟨sub a 5 1, sub b 5 1, wa.sub 5 1 (by decide), wb.sub 5 1 (by decide), rfl⟩
    | exact ⟨sub a 6 1, sub b 6 1, wa.sub 6 1 (by decide), wb.sub 6 1 (by decide), rfl⟩
    | (exact res_no (fun he => by have e := row_eq wa wb he; subst e; simp_all [eqDs, eqD, str_inj]))
    | (exact res_no (fun he => by have e := row_eq wa wb he; subst e; simp_all [eqDs, eqD, str_inj]))
    | (refine res_yes ?_; simp_all [eqDs, eqD, str_inj, csD, CV.d, rowC, ofD, argG, sub, List.zipIdx, List.range, List.range.loop]; done)
    | (refine res_iff ?_; simp_all [eqDs, eqD, str_inj, csD, CV.d, rowC, ofD, argG, sub, List.zipIdx, List.range, List.range.loop]; done)
    | skip
  have hl0 : (a.getD 4 default).rows.length = (b.getD 4 default).rows.length := eq_len ‹(((a.getD 4 default).rows.length : Int) != ((b.getD 4 default).rows.length : Int)) = false›
  refine awp_loop (Q := _) [2, 3, 4, 63, 64] [3, 4] (fun n s => ∃ i : Int, s = ([.val false [.b true], .ptr 3 1 0, .ptr 4 1 0, .val false [.i .i64 ((a.getD 4 default).rows).length], .val false [.i .i64 i]], [(1, (rowC [.i .i64, .i .i64, .i .i64, .s, .l 76, .l 9, .l 172] a).map fun c => .val false [c]), (1, (rowC [.i .i64, .i .i64, .i .i64, .s, .l 76, .l 9, .l 172] b).map fun c => .val false [c])]) ∧ 0 ≤ i ∧ i ≤ (a.getD 4 default).rows.length ∧ n = (a.getD 4 default).rows.length - i.toNat ∧ (a.getD 4 default).rows.take i.toNat = (b.getD 4 default).rows.take i.toNat) ?_ ?_
  · exact ⟨rfl, (a.getD 4 default).rows.length - 0, _, rfl, by omega, by omega, rfl, rfl⟩
  rintro n0 s ⟨i0, rfl, h10, h20, h30, h40⟩
  repeat' first
    | (refine And.intro ?_ ?_)
    | (intro h; cases h)
    | (intro h; rw [h])
    | (intro h)
  all_goals first
    | (show lowEdges _ = true; kernel_rfl) | (show logOk _ _ = true; kernel_rfl) | trivial | exact Or.inr rfl | exact Or.inl rfl
    | omega
    | exact of_decide_eq_true ‹_›
    | exact hl0 ▸ of_decide_eq_true ‹decide (i0 < ((a.getD 4 default).rows.length : Int)) = true›
    | exact ⟨_, _, rfl⟩
    | exact ⟨_, _, wa, wb, rfl⟩
    | exact ⟨sub a 0 1, sub b 0 1, wa.sub 0 1 (by decide), wb.sub 0 1 (by decide), rfl⟩
    | exact ⟨sub a 1 1, sub b 1 1, wa.sub 1 1 (by decide), wb.sub 1 1 (by decide), rfl⟩
    | exact ⟨sub a 2 1, sub b 2 1, wa.sub 2 1 (by decide), wb.sub 2 1 (by decide), rfl⟩
    | exact ⟨sub a 3 1, sub b 3 1, wa.sub 3 1 (by decide), wb.sub 3 1 (by decide), rfl⟩
    | exact ⟨sub a 4 1, sub b 4 1, wa.sub 4 1 (by decide), wb.sub 4 1 (by decide), rfl⟩
    | exact ⟨sub a 5 1, sub b 5 1, wa.sub 5 1 (by decide), wb.sub 5 1 (by decide), rfl⟩
    | exact ⟨sub a 6 1, sub b 6 1, wa.sub 6 1 (by decide), wb.sub 6 1 (by decide), rfl⟩
    | (have hi : i0 < ((a.getD 4 default).rows.length : Int) := of_decide_eq_true ‹decide (i0 < ((a.getD 4 default).rows.length : Int)) = true›
       have wra0 : WfRow T [.i .i64, .i .i64, .i .i64, .s, .l 76, .l 9, .l 172] ((a.getD 4 default).rows.getD i0.toNat []) := wA0.row rfl (by omega)
       have wrb0 : WfRow T [.i .i64, .i .i64, .i .i64, .s, .l 76, .l 9, .l 172] ((b.getD 4 default).rows.getD i0.toNat []) := wB0.row rfl (by omega)
       first
         | exact ⟨_, _, wra0, wrb0, rfl⟩
         | exact ⟨_, _, wra0, wrb0, Nat.lt_of_lt_of_le (Nat.lt_trans (size_row (by omega)) (size_cell (by rw [wa.1]; decide))) (Nat.le_of_lt_succ hs), rfl⟩
         | (exact res_no (fun he => by have e := row_eq wa wb he; subst e; simp_all [eqDs, eqD, str_inj]))
         | (refine ⟨(a.getD 4 default).rows.length - (i0 + 1).toNat, by omega, i0 + 1, ?_, by omega, by omega, rfl, takes_next h10 hi hl0 h40 (row_eq wra0 wrb0 ?_)⟩
            · exact congrArg (fun z : Int => (([.val false [.b true], .ptr 3 1 0, .ptr 4 1 0, .val false [.i .i64 ((a.getD 4 default).rows).length], .val false [.i .i64 z]], [(1, (rowC [.i .i64, .i .i64, .i .i64, .s, .l 76, .l 9, .l 172] a).map fun c => .val false [c]), (1, (rowC [.i .i64, .i .i64, .i .i64, .s, .l 76, .l 9, .l 172] b).map fun c => .val false [c])]) : Snap)) (wrap_next h10 hi lA0)
            · simp_all [eqDs, eqD, str_inj, csD, CV.d, rowC, ofD, argG, sub, List.zipIdx, List.range, List.range.loop]))
    | (have hA0 : (a.getD 4 default).rows = (b.getD 4 default).rows := eq_of_takes hl0 h10 h20 ‹_› h40
       first
         | (refine res_yes ?_; simp_all [eqDs, eqD, str_inj, csD, CV.d, rowC, ofD, argG, sub, List.zipIdx, List.range, List.range.loop]; done)
         | (refine res_iff ?_; simp_all [eqDs, eqD, str_inj, csD, CV.d, rowC, ofD, argG, sub, List.zipIdx, List.range, List.range.loop]; done)
         | (exact res_no (fun he => by have e := row_eq wa wb he; subst e; simp_all [eqDs, eqD, str_inj])))
    | skip
  have hA0 : (a.getD 4 default).rows = (b.getD 4 default).rows := eq_of_takes hl0 h10 h20 ‹decide (i0 < ((a.getD 4 default).rows.length : Int)) = false› h40
  have hl1 : (a.getD 6 default).rows.length = (b.getD 6 default).rows.length := eq_len ‹(((a.getD 6 default).rows.length : Int) != ((b.getD 6 default).rows.length : Int)) = false›
  refine awp_loop (Q := _) [2, 3, 4, 83, 84] [3, 4] (fun n s => ∃ i : Int, s = ([.val false [.b true], .ptr 3 1 0, .ptr 4 1 0, .val false [.i .i64 ((a.getD 6 default).rows).length], .val false [.i .i64 i]], [(1, (rowC [.i .i64, .i .i64, .i .i64, .s, .l 76, .l 9, .l 172] a).map fun c => .val false [c]), (1, (rowC [.i .i64, .i .i64, .i .i64, .s, .l 76, .l 9, .l 172] b).map fun c => .val false [c])]) ∧ 0 ≤ i ∧ i ≤ (a.getD 6 default).rows.length ∧ n = (a.getD 6 default).rows.length - i.toNat ∧ (a.getD 6 default).rows.take i.toNat = (b.getD 6 default).rows.take i.toNat) ?_ ?_
  · exact ⟨rfl, (a.getD 6 default).rows.length - 0, _, rfl, by omega, by omega, rfl, rfl⟩
  rintro n1 s ⟨i1, rfl, h11, h21, h31, h41⟩
  repeat' first
    | (refine And.intro ?_ ?_)
    | (intro h; cases h)
    | (intro h; rw [h])
    | (intro h)
  all_goals first
    | (show lowEdges _ = true; kernel_rfl) | (show logOk _ _ = true; kernel_rfl) | trivial | exact Or.inr rfl | exact Or.inl rfl
    | omega
    | exact of_decide_eq_true ‹_›
    | exact hl1 ▸ of_decide_eq_true ‹decide (i1 < ((a.getD 6 default).rows.length : Int)) = true›
    | exact ⟨_, _, rfl⟩
    | exact ⟨_, _, wa, wb, rfl⟩
    | exact ⟨sub a 0 1, sub b 0 1, wa.sub 0 1 (by decide), wb.sub 0 1 (by decide), rfl⟩
    | exact ⟨sub a 1 1, sub b 1 1, wa.sub 1 1 (by decide), wb.sub 1 1 (by decide), rfl⟩
    | exact ⟨sub a 2 1, sub b 2 1, wa.sub 2 1 (by decide), wb.sub 2 1 (by decide), rfl⟩
    | exact ⟨sub a 3 1, sub b 3 1, wa.sub 3 1 (by decide), wb.sub 3 1 (by decide), rfl⟩
    | exact ⟨sub a 4 1, sub b 4 1, wa.sub 4 1 (by decide), wb.sub 4 1 (by decide), rfl⟩
    | exact ⟨sub a 5 1, sub b 5 1, wa.sub 5 1 (by decide), wb.sub 5 1 (by decide), rfl⟩
    | exact ⟨sub a 6 1, sub b 6 1, wa.sub 6 1 (by decide), wb.sub 6 1 (by decide), rfl⟩
    | (have hi : i1 < ((a.getD 6 default).rows.length : Int) := of_decide_eq_true ‹decide (i1 < ((a.getD 6 default).rows.length : Int)) = true›
       have wra1 : WfRow T [.l 3, .l 192] ((a.getD 6 default).rows.getD i1.toNat []) := wA1.row rfl (by omega)
       have wrb1 : WfRow T [.l 3, .l 192] ((b.getD 6 default).rows.getD i1.toNat []) := wB1.row rfl (by omega)
       first
         | exact ⟨_, _, wra1, wrb1, rfl⟩
         | exact ⟨_, _, wra1, wrb1, Nat.lt_of_lt_of_le (Nat.lt_trans (size_row (by omega)) (size_cell (by rw [wa.1]; decide))) (Nat.le_of_lt_succ hs), rfl⟩
         | (exact res_no (fun he => by have e := row_eq wa wb he; subst e; simp_all [eqDs, eqD, str_inj]))
         | (refine ⟨(a.getD 6 default).rows.length - (i1 + 1).toNat, by omega, i1 + 1, ?_, by omega, by omega, rfl, takes_next h11 hi hl1 h41 (row_eq wra1 wrb1 ?_)⟩
            · exact congrArg (fun z : Int => (([.val false [.b true], .ptr 3 1 0, .ptr 4 1 0, .val false [.i .i64 ((a.getD 6 default).rows).length], .val false [.i .i64 z]], [(1, (rowC [.i .i64, .i .i64, .i .i64, .s, .l 76, .l 9, .l 172] a).map fun c => .val false [c]), (1, (rowC [.i .i64, .i .i64, .i .i64, .s, .l 76, .l 9, .l 172] b).map fun c => .val false [c])]) : Snap)) (wrap_next h11 hi lA1)
            · simp_all [eqDs, eqD, str_inj, csD, CV.d, rowC, ofD, argG, sub, List.zipIdx, List.range, List.range.loop]))
    | (have hA1 : (a.getD 6 default).rows = (b.getD 6 default).rows := eq_of_takes hl1 h11 h21 ‹_› h41
       first
         | (refine res_yes ?_; simp_all [eqDs, eqD, str_inj, csD, CV.d, rowC, ofD, argG, sub, List.zipIdx, List.range, List.range.loop]; done)
         | (refine res_iff ?_; simp_all [eqDs, eqD, str_inj, csD, CV.d, rowC, ofD, argG, sub, List.zipIdx, List.range, List.range.loop]; done)
         | (exact res_no (fun he => by have e := row_eq wa wb he; subst e; simp_all [eqDs, eqD, str_inj])))
theorem zero101 : FOk Try.prog T 101 (eqFn [.i .i64, .i .i64, .i .i64, .s, .l 76, .l 9, .l 172] 0) := by
  refine fok (env := envL []) (N := 121) tabT envL_nil mixed Try.func101 rfl Try.call101 Try.ntmps101 ?_
  rintro args ⟨a, b, wa, wb, hs, rfl⟩ _
  exact absurd hs (Nat.not_lt_zero _)
theorem all101 (n : Nat) : FOk Try.prog T 101 (eqFn [.i .i64, .i .i64, .i .i64, .s, .l 76, .l 9, .l 172] n) := by
  induction n with
  | zero => exact zero101
  | succ n ih => exact step101 n ih
theorem ok101 : FOk Try.prog T 101 (eqF [.i .i64, .i .i64, .i .i64, .s, .l 76, .l 9, .l 172]) := FOk.lift (s := fun n => eqFn [.i .i64, .i .i64, .i .i64, .s, .l 76, .l 9, .l 172] n) all101 (fun args ⟨a, b, wa, wb, h⟩ => ⟨SizeOf.sizeOf a + 1, a, b, wa, wb, Nat.lt_succ_self _, h⟩) (fun n => rfl)
/-- spec.EqualValue -/
theorem ok53 : FOk Try.prog T 53 (eqG [.i .i64, .i .i64, .i .i64, .s, .l 76, .l 9, .l 172]) := by
  refine fok (env := envL [(97, (eqF [.i .i64, .i .i64, .i .i64, .s, .l 76, .l 9, .l 172]))]) (N := 8) tabT (envL_cons ok97 envL_nil) mixed Try.func53 rfl Try.call53 Try.ntmps53 ?_
  rintro args ⟨a, b, wa, wb, rfl⟩ hwf
  refine ⟨by simp, ?_⟩
  clear hwf
  rw [Try.results53]
  repeat' first
    | (refine And.intro ?_ ?_)
    | (intro h; cases h)
    | (intro h; rw [h])
    | (intro h)
  all_goals first
    | (show lowEdges _ = true; kernel_rfl) | (show logOk _ _ = true; kernel_rfl) | trivial | exact Or.inr rfl | exact Or.inl rfl
    | exact ⟨_, _, rfl⟩
    | exact ⟨_, _, wa, wb, rfl⟩
    | exact ⟨sub a 0 1, sub b 0 1, wa.sub 0 1 (by decide), wb.sub 0 1 (by decide), rfl⟩
    | exact ⟨sub a 1 1, sub b 1 1, wa.sub 1 1 (by decide), wb.sub 1 1 (by decide), rfl⟩
    | exact ⟨sub a 2 1, sub b 2 1, wa.sub 2 1 (by decide), wb.sub 2 1 (by decide), rfl⟩
    | exact ⟨sub a 3 1, sub b 3 1, wa.sub 3 1 (by decide), wb.sub 3 1 (by decide), rfl⟩
    | exact ⟨sub a 4 1, sub b 4 1, wa.sub 4 1 (by decide), wb.sub 4 1 (by decide), rfl⟩
    | exact ⟨sub a 5 1, sub b 5 1, wa.sub 5 1 (by decide), wb.sub 5 1 (by decide), rfl⟩
    | exact ⟨sub a 6 1, sub b 6 1, wa.sub 6 1 (by decide), wb.sub 6 1 (by decide), rfl⟩
    | (exact res_no (fun he => by have e := row_eq wa wb he; subst e; simp_all [eqDs, eqD, str_inj]))
    | (exact res_no (fun he => by have e := row_eq wa wb he; subst e; simp_all [eqDs, eqD, str_inj]))
    | (refine res_yes ?_; simp_all [eqDs, eqD, str_inj, csD, CV.d, rowC, ofD, argG, sub, List.zipIdx, List.range, List.range.loop]; done)
    | (refine res_iff ?_; simp_all [eqDs, eqD, str_inj, csD, CV.d, rowC, ofD, argG, sub, List.zipIdx, List.range, List.range.loop]; done)
    | skip
/-- impl.EqualValue -/
theorem ok58 : FOk Try.prog T 58 (eqG [.i .i64, .i .i64, .i .i64, .s, .l 76, .l 9, .l 172]) := by
  refine fok (env := envL [(101, (eqF [.i .i64, .i .i64, .i .i64, .s, .l 76, .l 9, .l 172]))]) (N := 8) tabT (envL_cons ok101 envL_nil) mixed Try.func58 rfl Try.call58 Try.ntmps58 ?_
  rintro args ⟨a, b, wa, wb, rfl⟩ hwf
  refine ⟨by simp, ?_⟩
  clear hwf
  rw [Try.results58]
  repeat' first
    | (refine And.intro ?_ ?_)
    | (intro h; cases h)
    | (intro h; rw [h])
    | (intro h)
  all_goals first
    | (show lowEdges _ = true; kernel_rfl) | (show logOk _ _ = true; kernel_rfl) | trivial | exact Or.inr rfl | exact Or.inl rfl
    | exact ⟨_, _, rfl⟩
    | exact ⟨_, _, wa, wb, rfl⟩
    | exact ⟨sub a 0 1, sub b 0 1, wa.sub 0 1 (by decide), wb.sub 0 1 (by decide), rfl⟩
    | exact ⟨sub a 1 1, sub b 1 1, wa.sub 1 1 (by decide), wb.sub 1 1 (by decide), rfl⟩
    | exact ⟨sub a 2 1, sub b 2 1, wa.sub 2 1 (by decide), wb.sub 2 1 (by decide), rfl⟩
    | exact ⟨sub a 3 1, sub b 3 1, wa.sub 3 1 (by decide), wb.sub 3 1 (by decide), rfl⟩
    | exact ⟨sub a 4 1, sub b 4 1, wa.sub 4 1 (by decide), wb.sub 4 1 (by decide), rfl⟩
    | exact ⟨sub a 5 1, sub b 5 1, wa.sub 5 1 (by decide), wb.sub 5 1 (by decide), rfl⟩
    | exact ⟨sub a 6 1, sub b 6 1, wa.sub 6 1 (by decide), wb.sub 6 1 (by decide), rfl⟩
    | (exact res_no (fun he => by have e := row_eq wa wb he; subst e; simp_all [eqDs, eqD, str_inj]))
    | (exact res_no (fun he => by have e := row_eq wa wb he; subst e; simp_all [eqDs, eqD, str_inj]))
    | (refine res_yes ?_; simp_all [eqDs, eqD, str_inj, csD, CV.d, rowC, ofD, argG, sub, List.zipIdx, List.range, List.range.loop]; done)
    | (refine res_iff ?_; simp_all [eqDs, eqD, str_inj, csD, CV.d, rowC, ofD, argG, sub, List.zipIdx, List.range, List.range.loop]; done)
    | skip
end Go.Proofs.Ytijnlnmoellbaaa.Ab
