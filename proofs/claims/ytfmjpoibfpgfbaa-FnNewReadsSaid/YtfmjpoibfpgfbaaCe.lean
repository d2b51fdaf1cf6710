/- Comparisons: printed by a program of this claim. -/
import Derived.Test.YtfmjpoibfpgfbaaEd
namespace Go.Proofs.Ytfmjpoibfpgfbaa.Ab
open Go.RowKit
set_option linter.unusedVariables false
set_option linter.unusedSimpArgs false
set_option maxRecDepth 100000
set_option maxHeartbeats 1000000
/-- spec.l1Ints -/
theorem ok45 : FOk Try.prog T 45 (eqS 3) := by
  refine fok (env := envL []) (N := 26) tabT envL_nil mixed Try.func45 rfl Try.call45 Try.ntmps45 ?_
  rintro args ⟨a, b, rfl⟩ hwf
  have wa : WfD T (.l 3) (.l a) := arg0 hwf (List.mem_singleton_self _)
  have wb : WfD T (.l 3) (.l b) := arg1 hwf (List.mem_singleton_self _)
  clear hwf
  have la := wa.len
  refine ⟨by simp, ?_⟩
  rw [Try.results45]
  repeat' first
    | (refine And.intro ?_ ?_)
    | (intro h)
  all_goals first
    | (show lowEdges _ = true; kernel_rfl) | (show logOk _ _ = true; kernel_rfl) | exact True.intro | exact rfl | exact Or.inr rfl | exact Or.inl rfl
    | exact res_no (ne_len ‹_›)
    | skip
  have hl := eq_len ‹_›
  refine awp_loop (Q := _) [0, 1, 5] [] (fun n s => ∃ i : Int, s = ([argS 3 a, argS 3 b, .val false [.i .i64 i]], []) ∧ 0 ≤ i ∧ i ≤ a.length ∧ n = a.length - i.toNat ∧ a.take i.toNat = b.take i.toNat) ?_ ?_
  · exact ⟨rfl, a.length - 0, _, rfl, by omega, by omega, rfl, rfl⟩
  rintro n s ⟨i, rfl, h1, h2, h3, h4⟩
  repeat' first
    | (refine And.intro ?_ ?_)
    | (intro h)
  all_goals first
    | (show lowEdges _ = true; kernel_rfl) | (show logOk _ _ = true; kernel_rfl) | exact True.intro | exact rfl | exact Or.inr rfl | exact Or.inl rfl
    | omega
    | exact of_decide_eq_true ‹_›
    | exact hl ▸ of_decide_eq_true ‹decide (i < (a.length : Int)) = true›
    | exact ⟨_, _, rfl⟩
    | exact res_yes (eq_of_takes hl h1 h2 ‹_› h4)
    | (have hi : i < (a.length : Int) := of_decide_eq_true ‹_›
       have wra : WfRow T [.i .i64] (a.getD i.toNat []) := wa.row rfl (by omega)
       have wrb : WfRow T [.i .i64] (b.getD i.toNat []) := wb.row rfl (by omega)
       first
         | exact ⟨_, _, wra, wrb, rfl⟩
         | exact ⟨_, _, wra, wrb, Nat.lt_of_lt_of_le (size_row (by omega)) (Nat.le_of_lt_succ hs), rfl⟩
         | (refine res_no ?_; rintro rfl; simp_all [eqDs, eqD, str_inj]; done)
         | (refine ⟨a.length - (i + 1).toNat, by omega, i + 1, ?_, by omega, by omega, rfl, takes_next h1 hi hl h4 (row_eq wra wrb ?_)⟩
            · exact congrArg (fun z => ([argS 3 a, argS 3 b, .val false [.i .i64 z]], [])) (wrap_next h1 hi la)
            · simp_all [eqDs, eqD, str_inj, csD, CV.d, rowC, ofD, argG, sub, List.zipIdx, List.range, List.range.loop]))
    | rfl
/-- spec.l3Texts -/
theorem ok44 : FOk Try.prog T 44 (eqS 9) := by
  refine fok (env := envL []) (N := 26) tabT envL_nil mixed Try.func44 rfl Try.call44 Try.ntmps44 ?_
  rintro args ⟨a, b, rfl⟩ hwf
  have wa : WfD T (.l 9) (.l a) := arg0 hwf (List.mem_singleton_self _)
  have wb : WfD T (.l 9) (.l b) := arg1 hwf (List.mem_singleton_self _)
  clear hwf
  have la := wa.len
  refine ⟨by simp, ?_⟩
  rw [Try.results44]
  repeat' first
    | (refine And.intro ?_ ?_)
    | (intro h)
  all_goals first
    | (show lowEdges _ = true; kernel_rfl) | (show logOk _ _ = true; kernel_rfl) | exact True.intro | exact rfl | exact Or.inr rfl | exact Or.inl rfl
    | exact res_no (ne_len ‹_›)
    | skip
  have hl := eq_len ‹_›
  refine awp_loop (Q := _) [0, 1, 5] [] (fun n s => ∃ i : Int, s = ([argS 9 a, argS 9 b, .val false [.i .i64 i]], []) ∧ 0 ≤ i ∧ i ≤ a.length ∧ n = a.length - i.toNat ∧ a.take i.toNat = b.take i.toNat) ?_ ?_
  · exact ⟨rfl, a.length - 0, _, rfl, by omega, by omega, rfl, rfl⟩
  rintro n s ⟨i, rfl, h1, h2, h3, h4⟩
  repeat' first
    | (refine And.intro ?_ ?_)
    | (intro h)
  all_goals first
    | (show lowEdges _ = true; kernel_rfl) | (show logOk _ _ = true; kernel_rfl) | exact True.intro | exact rfl | exact Or.inr rfl | exact Or.inl rfl
    | omega
    | exact of_decide_eq_true ‹_›
    | exact hl ▸ of_decide_eq_true ‹decide (i < (a.length : Int)) = true›
    | exact ⟨_, _, rfl⟩
    | exact res_yes (eq_of_takes hl h1 h2 ‹_› h4)
    | (have hi : i < (a.length : Int) := of_decide_eq_true ‹_›
       have wra : WfRow T [.s] (a.getD i.toNat []) := wa.row rfl (by omega)
       have wrb : WfRow T [.s] (b.getD i.toNat []) := wb.row rfl (by omega)
       first
         | exact ⟨_, _, wra, wrb, rfl⟩
         | exact ⟨_, _, wra, wrb, Nat.lt_of_lt_of_le (size_row (by omega)) (Nat.le_of_lt_succ hs), rfl⟩
         | (refine res_no ?_; rintro rfl; simp_all [eqDs, eqD, str_inj]; done)
         | (refine ⟨a.length - (i + 1).toNat, by omega, i + 1, ?_, by omega, by omega, rfl, takes_next h1 hi hl h4 (row_eq wra wrb ?_)⟩
            · exact congrArg (fun z => ([argS 9 a, argS 9 b, .val false [.i .i64 z]], [])) (wrap_next h1 hi la)
            · simp_all [eqDs, eqD, str_inj, csD, CV.d, rowC, ofD, argG, sub, List.zipIdx, List.range, List.range.loop]))
    | rfl
/-- spec.l3Origins -/
theorem ok46 : FOk Try.prog T 46 (eqS 87) := by
  refine fok (env := envL []) (N := 26) tabT envL_nil mixed Try.func46 rfl Try.call46 Try.ntmps46 ?_
  rintro args ⟨a, b, rfl⟩ hwf
  have wa : WfD T (.l 87) (.l a) := arg0 hwf (List.mem_singleton_self _)
  have wb : WfD T (.l 87) (.l b) := arg1 hwf (List.mem_singleton_self _)
  clear hwf
  have la := wa.len
  refine ⟨by simp, ?_⟩
  rw [Try.results46]
  repeat' first
    | (refine And.intro ?_ ?_)
    | (intro h)
  all_goals first
    | (show lowEdges _ = true; kernel_rfl) | (show logOk _ _ = true; kernel_rfl) | exact True.intro | exact rfl | exact Or.inr rfl | exact Or.inl rfl
    | exact res_no (ne_len ‹_›)
    | skip
  have hl := eq_len ‹_›
  refine awp_loop (Q := _) [0, 1, 5] [] (fun n s => ∃ i : Int, s = ([argS 87 a, argS 87 b, .val false [.i .i64 i]], []) ∧ 0 ≤ i ∧ i ≤ a.length ∧ n = a.length - i.toNat ∧ a.take i.toNat = b.take i.toNat) ?_ ?_
  · exact ⟨rfl, a.length - 0, _, rfl, by omega, by omega, rfl, rfl⟩
  rintro n s ⟨i, rfl, h1, h2, h3, h4⟩
  repeat' first
    | (refine And.intro ?_ ?_)
    | (intro h)
  all_goals first
    | (show lowEdges _ = true; kernel_rfl) | (show logOk _ _ = true; kernel_rfl) | exact True.intro | exact rfl | exact Or.inr rfl | exact Or.inl rfl
    | omega
    | exact of_decide_eq_true ‹_›
    | exact hl ▸ of_decide_eq_true ‹decide (i < (a.length : Int)) = true›
    | exact ⟨_, _, rfl⟩
    | exact res_yes (eq_of_takes hl h1 h2 ‹_› h4)
    | (have hi : i < (a.length : Int) := of_decide_eq_true ‹_›
       have wra : WfRow T [.i .i64, .i .i64] (a.getD i.toNat []) := wa.row rfl (by omega)
       have wrb : WfRow T [.i .i64, .i .i64] (b.getD i.toNat []) := wb.row rfl (by omega)
       first
         | exact ⟨_, _, wra, wrb, rfl⟩
         | exact ⟨_, _, wra, wrb, Nat.lt_of_lt_of_le (size_row (by omega)) (Nat.le_of_lt_succ hs), rfl⟩
         | (refine res_no ?_; rintro rfl; simp_all [eqDs, eqD, str_inj]; done)
         | (refine ⟨a.length - (i + 1).toNat, by omega, i + 1, ?_, by omega, by omega, rfl, takes_next h1 hi hl h4 (row_eq wra wrb ?_)⟩
            · exact congrArg (fun z => ([argS 87 a, argS 87 b, .val false [.i .i64 z]], [])) (wrap_next h1 hi la)
            · simp_all [eqDs, eqD, str_inj, csD, CV.d, rowC, ofD, argG, sub, List.zipIdx, List.range, List.range.loop]))
    | rfl
/-- impl.sameRead -/
theorem ok26 : FOk Try.prog T 26 (eqP [.i .i64, .i .i64, .i .i64, .s, .i .i64, .i .i64, .i .i64, .s, .l 40, .l 9, .l 74] 4) := by
  refine fok (env := envL []) (N := 31) tabT envL_nil mixed Try.func26 rfl Try.call26 Try.ntmps26 ?_
  rintro args ⟨a, b, wa, wb, rfl⟩ hwf
  refine ⟨by simp, ?_⟩
  clear hwf
  rw [Try.results26]
  repeat' first
    | (refine And.intro ?_ ?_)
    | (intro h; cases h)
    | (intro h; rw [h])
    | (intro h)
  all_goals first
    | (show lowEdges _ = true; kernel_rfl) | (show logOk _ _ = true; kernel_rfl) | exact True.intro | exact rfl | exact Or.inr rfl | exact Or.inl rfl
    | exact ⟨_, _, rfl⟩
    | exact ⟨sub a 0 1, sub b 0 1, wa.sub 0 1 (by decide), wb.sub 0 1 (by decide), rfl⟩
    | exact ⟨sub a 1 1, sub b 1 1, wa.sub 1 1 (by decide), wb.sub 1 1 (by decide), rfl⟩
    | exact ⟨sub a 2 1, sub b 2 1, wa.sub 2 1 (by decide), wb.sub 2 1 (by decide), rfl⟩
    | exact ⟨sub a 3 1, sub b 3 1, wa.sub 3 1 (by decide), wb.sub 3 1 (by decide), rfl⟩
    | exact ⟨sub a 4 7, sub b 4 7, wa.sub 4 7 (by decide), wb.sub 4 7 (by decide), rfl⟩
    | (refine res_no ?_; simp_all [eqDs, eqD, str_inj, csD, CV.d, rowC, ofD, argG, sub, List.zipIdx, List.range, List.range.loop]; done)
    | (refine res_no ?_; simp_all [eqDs, eqD, str_inj, csD, CV.d, rowC, ofD, argG, sub, List.zipIdx, List.range, List.range.loop]; done)
    | (refine res_yes ?_; simp_all [eqDs, eqD, str_inj, csD, CV.d, rowC, ofD, argG, sub, List.zipIdx, List.range, List.range.loop]; done)
    | (refine res_iff ?_; simp_all [eqDs, eqD, str_inj, csD, CV.d, rowC, ofD, argG, sub, List.zipIdx, List.range, List.range.loop]; done)
    | skip
/-- spec.l16Same -/
theorem ok32 : FOk Try.prog T 32 (eqP [.i .i64, .i .i64, .i .i64, .s, .i .i64, .i .i64, .i .i64, .s, .l 40, .l 9, .l 74] 4) := by
  refine fok (env := envL []) (N := 31) tabT envL_nil mixed Try.func32 rfl Try.call32 Try.ntmps32 ?_
  rintro args ⟨a, b, wa, wb, rfl⟩ hwf
  refine ⟨by simp, ?_⟩
  clear hwf
  rw [Try.results32]
  repeat' first
    | (refine And.intro ?_ ?_)
    | (intro h; cases h)
    | (intro h; rw [h])
    | (intro h)
  all_goals first
    | (show lowEdges _ = true; kernel_rfl) | (show logOk _ _ = true; kernel_rfl) | exact True.intro | exact rfl | exact Or.inr rfl | exact Or.inl rfl
    | exact ⟨_, _, rfl⟩
    | exact ⟨sub a 0 1, sub b 0 1, wa.sub 0 1 (by decide), wb.sub 0 1 (by decide), rfl⟩
    | exact ⟨sub a 1 1, sub b 1 1, wa.sub 1 1 (by decide), wb.sub 1 1 (by decide), rfl⟩
    | exact ⟨sub a 2 1, sub b 2 1, wa.sub 2 1 (by decide), wb.sub 2 1 (by decide), rfl⟩
    | exact ⟨sub a 3 1, sub b 3 1, wa.sub 3 1 (by decide), wb.sub 3 1 (by decide), rfl⟩
    | exact ⟨sub a 4 7, sub b 4 7, wa.sub 4 7 (by decide), wb.sub 4 7 (by decide), rfl⟩
    | (refine res_no ?_; simp_all [eqDs, eqD, str_inj, csD, CV.d, rowC, ofD, argG, sub, List.zipIdx, List.range, List.range.loop]; done)
    | (refine res_no ?_; simp_all [eqDs, eqD, str_inj, csD, CV.d, rowC, ofD, argG, sub, List.zipIdx, List.range, List.range.loop]; done)
    | (refine res_yes ?_; simp_all [eqDs, eqD, str_inj, csD, CV.d, rowC, ofD, argG, sub, List.zipIdx, List.range, List.range.loop]; done)
    | (refine res_iff ?_; simp_all [eqDs, eqD, str_inj, csD, CV.d, rowC, ofD, argG, sub, List.zipIdx, List.range, List.range.loop]; done)
    | skip
/-- spec.l3Same -/
theorem step43 (n : Nat) (hn : FOk Try.prog T 43 (eqFn [.i .i64, .i .i64, .i .i64, .s, .l 40, .l 9, .l 74] n)) : FOk Try.prog T 43 (eqFn [.i .i64, .i .i64, .i .i64, .s, .l 40, .l 9, .l 74] (n + 1)) := by
  refine fok (env := envL [(44, (eqS 9)), (43, (eqFn [.i .i64, .i .i64, .i .i64, .s, .l 40, .l 9, .l 74] n)), (45, (eqS 3)), (46, (eqS 87))]) (N := 121) tabT (envL_cons ok44 (envL_cons hn (envL_cons ok45 (envL_cons ok46 envL_nil)))) mixed Try.func43 rfl Try.call43 Try.ntmps43 ?_
  rintro args ⟨a, b, wa, wb, hs, rfl⟩ hwf
  refine ⟨by simp, ?_⟩
  clear hwf
  have wA0 : WfD T (.l 40) (.l (a.getD 4 default).rows) := wa.rows (j := 4) rfl
  have wB0 : WfD T (.l 40) (.l (b.getD 4 default).rows) := wb.rows (j := 4) rfl
  have lA0 := wA0.len
  have wA1 : WfD T (.l 74) (.l (a.getD 6 default).rows) := wa.rows (j := 6) rfl
  have wB1 : WfD T (.l 74) (.l (b.getD 6 default).rows) := wb.rows (j := 6) rfl
  have lA1 := wA1.len
  rw [Try.results43]
  repeat' first
    | (refine And.intro ?_ ?_)
    | (intro h; cases h)
    | (intro h; rw [h])
    | (intro h)
  all_goals first
    | (show lowEdges _ = true; kernel_rfl) | (show logOk _ _ = true; kernel_rfl) | exact True.intro | exact rfl | exact Or.inr rfl | exact Or.inl rfl
    | exact ⟨_, _, rfl⟩
    | exact ⟨_, _, wa, wb, rfl⟩
    | exact ⟨sub a 0 1, sub b 0 1, wa.sub 0 1 (by decide), wb.sub 0 1 (by decide), rfl⟩
    | exact ⟨sub a 1 1, sub b 1 1, wa.sub 1 1 (by decide), wb.sub 1 1 (by decide), rfl⟩
    | exact ⟨sub a 2 1, sub b 2 1, wa.sub 2 1 (by decide), wb.sub 2 1 (by decide), rfl⟩
    | exact ⟨sub a 3 1, sub b 3 1, wa.sub 3 1 (by decide), wb.sub 3 1 (by decide), rfl⟩
    | exact ⟨sub a 4 1, sub b 4 1, wa.sub 4 1 (by decide), wb.sub 4 1 (by decide), rfl⟩
    | exact ⟨sub a 5 1, sub b 5 1, wa.sub 5 1 (by decide), wb.sub 5 1 (by decide), rfl⟩
    | exact ⟨sub a 6 1, sub b 6 1, wa.sub 6 1 (by decide), wb.sub 6 1 (by decide), rfl⟩
    | (exact res_no (fun he => by have e := row_eq wa wb he; subst e; simp_all [eqDs, eqD, str_inj]))
    | (exact res_no (fun he => by have e := row_eq wa wb he; subst e; simp_all [eqDs, eqD, str_inj]))
    | (refine res_yes ?_; simp_all [eqDs, eqD, str_inj, csD, CV.d, rowC, ofD, argG, sub, List.zipIdx, List.range, List.range.loop]; done)
    | (refine res_iff ?_; simp_all [eqDs, eqD, str_inj, csD, CV.d, rowC, ofD, argG, sub, List.zipIdx, List.range, List.range.loop]; done)
    | skip
  have hl0 : (a.getD 4 default).rows.length = (b.getD 4 default).rows.length := eq_len ‹(((a.getD 4 default).rows.length : Int) != ((b.getD 4 default).rows.length : Int)) = false›
  refine awp_loop (Q := _) [2, 3, 4, 7] [3, 4] (fun n s => ∃ i : Int, s = ([.val false [.b true], .ptr 3 1 0, .ptr 4 1 0, .val false [.i .i64 i]], [(1, (rowC [.i .i64, .i .i64, .i .i64, .s, .l 40, .l 9, .l 74] a).map fun c => .val false [c]), (1, (rowC [.i .i64, .i .i64, .i .i64, .s, .l 40, .l 9, .l 74] b).map fun c => .val false [c])]) ∧ 0 ≤ i ∧ i ≤ (a.getD 4 default).rows.length ∧ n = (a.getD 4 default).rows.length - i.toNat ∧ (a.getD 4 default).rows.take i.toNat = (b.getD 4 default).rows.take i.toNat) ?_ ?_
  · exact ⟨rfl, (a.getD 4 default).rows.length - 0, _, rfl, by omega, by omega, rfl, rfl⟩
  rintro n0 s ⟨i0, rfl, h10, h20, h30, h40⟩
  repeat' first
    | (refine And.intro ?_ ?_)
    | (intro h; cases h)
    | (intro h; rw [h])
    | (intro h)
  all_goals first
    | (show lowEdges _ = true; kernel_rfl) | (show logOk _ _ = true; kernel_rfl) | exact True.intro | exact rfl | exact Or.inr rfl | exact Or.inl rfl
    | omega
    | exact of_decide_eq_true ‹_›
    | exact hl0 ▸ of_decide_eq_true ‹decide (i0 < ((a.getD 4 default).rows.length : Int)) = true›
    | exact ⟨_, _, rfl⟩
    | exact ⟨_, _, wa, wb, rfl⟩
    | exact ⟨sub a 0 1, sub b 0 1, wa.sub 0 1 (by decide), wb.sub 0 1 (by decide), rfl⟩
    | exact ⟨sub a 1 1, sub b 1 1, wa.sub 1 1 (by decide), wb.sub 1 1 (by decide), rfl⟩
    | exact ⟨sub a 2 1, sub b 2 1, wa.sub 2 1 (by decide), wb.sub 2 1 (by decide), rfl⟩
    | exact ⟨sub a 3 1, sub b 3 1, wa.sub 3 1 (by decide), wb.sub 3 1 (by decide), rfl⟩
    | exact ⟨sub a 4 1, sub b 4 1, wa.sub 4 1 (by decide), wb.sub 4 1 (by decide), rfl⟩
    | exact ⟨sub a 5 1, sub b 5 1, wa.sub 5 1 (by decide), wb.sub 5 1 (by decide), rfl⟩
    | exact ⟨sub a 6 1, sub b 6 1, wa.sub 6 1 (by decide), wb.sub 6 1 (by decide), rfl⟩
    | (have hi : i0 < ((a.getD 4 default).rows.length : Int) := of_decide_eq_true ‹decide (i0 < ((a.getD 4 default).rows.length : Int)) = true›
       have wra0 : WfRow T [.i .i64, .i .i64, .i .i64, .s, .l 40, .l 9, .l 74] ((a.getD 4 default).rows.getD i0.toNat []) := wA0.row rfl (by omega)
       have wrb0 : WfRow T [.i .i64, .i .i64, .i .i64, .s, .l 40, .l 9, .l 74] ((b.getD 4 default).rows.getD i0.toNat []) := wB0.row rfl (by omega)
       first
         | exact ⟨_, _, wra0, wrb0, rfl⟩
         | exact ⟨_, _, wra0, wrb0, Nat.lt_of_lt_of_le (Nat.lt_trans (size_row (by omega)) (size_cell (by rw [wa.1]; decide))) (Nat.le_of_lt_succ hs), rfl⟩
         | (exact res_no (fun he => by have e := row_eq wa wb he; subst e; simp_all [eqDs, eqD, str_inj]))
         | (refine ⟨(a.getD 4 default).rows.length - (i0 + 1).toNat, by omega, i0 + 1, ?_, by omega, by omega, rfl, takes_next h10 hi hl0 h40 (row_eq wra0 wrb0 ?_)⟩
            · exact congrArg (fun z : Int => (([.val false [.b true], .ptr 3 1 0, .ptr 4 1 0, .val false [.i .i64 z]], [(1, (rowC [.i .i64, .i .i64, .i .i64, .s, .l 40, .l 9, .l 74] a).map fun c => .val false [c]), (1, (rowC [.i .i64, .i .i64, .i .i64, .s, .l 40, .l 9, .l 74] b).map fun c => .val false [c])]) : Snap)) (wrap_next h10 hi lA0)
            · simp_all [eqDs, eqD, str_inj, csD, CV.d, rowC, ofD, argG, sub, List.zipIdx, List.range, List.range.loop]))
    | (have hA0 : (a.getD 4 default).rows = (b.getD 4 default).rows := eq_of_takes hl0 h10 h20 ‹_› h40
       first
         | (refine res_yes ?_; simp_all [eqDs, eqD, str_inj, csD, CV.d, rowC, ofD, argG, sub, List.zipIdx, List.range, List.range.loop]; done)
         | (refine res_iff ?_; simp_all [eqDs, eqD, str_inj, csD, CV.d, rowC, ofD, argG, sub, List.zipIdx, List.range, List.range.loop]; done)
         | (exact res_no (fun he => by have e := row_eq wa wb he; subst e; simp_all [eqDs, eqD, str_inj])))
    | skip
  have hA0 : (a.getD 4 default).rows = (b.getD 4 default).rows := eq_of_takes hl0 h10 h20 ‹decide (i0 < ((a.getD 4 default).rows.length : Int)) = false› h40
  have hl1 : (a.getD 6 default).rows.length = (b.getD 6 default).rows.length := eq_len ‹(((a.getD 6 default).rows.length : Int) != ((b.getD 6 default).rows.length : Int)) = false›
  refine awp_loop (Q := _) [2, 3, 4, 8] [3, 4] (fun n s => ∃ i : Int, s = ([.val false [.b true], .ptr 3 1 0, .ptr 4 1 0, .val false [.i .i64 i]], [(1, (rowC [.i .i64, .i .i64, .i .i64, .s, .l 40, .l 9, .l 74] a).map fun c => .val false [c]), (1, (rowC [.i .i64, .i .i64, .i .i64, .s, .l 40, .l 9, .l 74] b).map fun c => .val false [c])]) ∧ 0 ≤ i ∧ i ≤ (a.getD 6 default).rows.length ∧ n = (a.getD 6 default).rows.length - i.toNat ∧ (a.getD 6 default).rows.take i.toNat = (b.getD 6 default).rows.take i.toNat) ?_ ?_
  · exact ⟨rfl, (a.getD 6 default).rows.length - 0, _, rfl, by omega, by omega, rfl, rfl⟩
  rintro n1 s ⟨i1, rfl, h11, h21, h31, h41⟩
  repeat' first
    | (refine And.intro ?_ ?_)
    | (intro h; cases h)
    | (intro h; rw [h])
    | (intro h)
  all_goals first
    | (show lowEdges _ = true; kernel_rfl) | (show logOk _ _ = true; kernel_rfl) | exact True.intro | exact rfl | exact Or.inr rfl | exact Or.inl rfl
    | omega
    | exact of_decide_eq_true ‹_›
    | exact hl1 ▸ of_decide_eq_true ‹decide (i1 < ((a.getD 6 default).rows.length : Int)) = true›
    | exact ⟨_, _, rfl⟩
    | exact ⟨_, _, wa, wb, rfl⟩
    | exact ⟨sub a 0 1, sub b 0 1, wa.sub 0 1 (by decide), wb.sub 0 1 (by decide), rfl⟩
    | exact ⟨sub a 1 1, sub b 1 1, wa.sub 1 1 (by decide), wb.sub 1 1 (by decide), rfl⟩
    | exact ⟨sub a 2 1, sub b 2 1, wa.sub 2 1 (by decide), wb.sub 2 1 (by decide), rfl⟩
    | exact ⟨sub a 3 1, sub b 3 1, wa.sub 3 1 (by decide), wb.sub 3 1 (by decide), rfl⟩
    | exact ⟨sub a 4 1, sub b 4 1, wa.sub 4 1 (by decide), wb.sub 4 1 (by decide), rfl⟩
    | exact ⟨sub a 5 1, sub b 5 1, wa.sub 5 1 (by decide), wb.sub 5 1 (by decide), rfl⟩
    | exact ⟨sub a 6 1, sub b 6 1, wa.sub 6 1 (by decide), wb.sub 6 1 (by decide), rfl⟩
    | (have hi : i1 < ((a.getD 6 default).rows.length : Int) := of_decide_eq_true ‹decide (i1 < ((a.getD 6 default).rows.length : Int)) = true›
       have wra1 : WfRow T [.l 3, .l 87] ((a.getD 6 default).rows.getD i1.toNat []) := wA1.row rfl (by omega)
       have wrb1 : WfRow T [.l 3, .l 87] ((b.getD 6 default).rows.getD i1.toNat []) := wB1.row rfl (by omega)
       first
         | exact ⟨_, _, wra1, wrb1, rfl⟩
         | exact ⟨_, _, wra1, wrb1, Nat.lt_of_lt_of_le (Nat.lt_trans (size_row (by omega)) (size_cell (by rw [wa.1]; decide))) (Nat.le_of_lt_succ hs), rfl⟩
         | (exact res_no (fun he => by have e := row_eq wa wb he; subst e; simp_all [eqDs, eqD, str_inj]))
         | (refine ⟨(a.getD 6 default).rows.length - (i1 + 1).toNat, by omega, i1 + 1, ?_, by omega, by omega, rfl, takes_next h11 hi hl1 h41 (row_eq wra1 wrb1 ?_)⟩
            · exact congrArg (fun z : Int => (([.val false [.b true], .ptr 3 1 0, .ptr 4 1 0, .val false [.i .i64 z]], [(1, (rowC [.i .i64, .i .i64, .i .i64, .s, .l 40, .l 9, .l 74] a).map fun c => .val false [c]), (1, (rowC [.i .i64, .i .i64, .i .i64, .s, .l 40, .l 9, .l 74] b).map fun c => .val false [c])]) : Snap)) (wrap_next h11 hi lA1)
            · simp_all [eqDs, eqD, str_inj, csD, CV.d, rowC, ofD, argG, sub, List.zipIdx, List.range, List.range.loop]))
    | (have hA1 : (a.getD 6 default).rows = (b.getD 6 default).rows := eq_of_takes hl1 h11 h21 ‹_› h41
       first
         | (refine res_yes ?_; simp_all [eqDs, eqD, str_inj, csD, CV.d, rowC, ofD, argG, sub, List.zipIdx, List.range, List.range.loop]; done)
         | (refine res_iff ?_; simp_all [eqDs, eqD, str_inj, csD, CV.d, rowC, ofD, argG, sub, List.zipIdx, List.range, List.range.loop]; done)
         | (exact res_no (fun he => by have e := row_eq wa wb he; subst e; simp_all [eqDs, eqD, str_inj])))
theorem zero43 : FOk Try.prog T 43 (eqFn [.i .i64, .i .i64, .i .i64, .s, .l 40, .l 9, .l 74] 0) := by
  refine fok (env := envL []) (N := 121) tabT envL_nil mixed Try.func43 rfl Try.call43 Try.ntmps43 ?_
  rintro args ⟨a, b, wa, wb, hs, rfl⟩ _
  exact absurd hs (Nat.not_lt_zero _)
theorem all43 (n : Nat) : FOk Try.prog T 43 (eqFn [.i .i64, .i .i64, .i .i64, .s, .l 40, .l 9, .l 74] n) := by
  induction n with
  | zero => exact zero43
  | succ n ih => exact step43 n ih
theorem ok43 : FOk Try.prog T 43 (eqF [.i .i64, .i .i64, .i .i64, .s, .l 40, .l 9, .l 74]) := FOk.lift (s := fun n => eqFn [.i .i64, .i .i64, .i .i64, .s, .l 40, .l 9, .l 74] n) all43 (fun args ⟨a, b, wa, wb, h⟩ => ⟨SizeOf.sizeOf a + 1, a, b, wa, wb, Nat.lt_succ_self _, h⟩) (fun n => rfl)
/-- spec.EqualValue -/
theorem ok42 : FOk Try.prog T 42 (eqG [.i .i64, .i .i64, .i .i64, .s, .l 40, .l 9, .l 74]) := by
  refine fok (env := envL [(43, (eqF [.i .i64, .i .i64, .i .i64, .s, .l 40, .l 9, .l 74]))]) (N := 8) tabT (envL_cons ok43 envL_nil) mixed Try.func42 rfl Try.call42 Try.ntmps42 ?_
  rintro args ⟨a, b, wa, wb, rfl⟩ hwf
  refine ⟨by simp, ?_⟩
  clear hwf
  rw [Try.results42]
  repeat' first
    | (refine And.intro ?_ ?_)
    | (intro h; cases h)
    | (intro h; rw [h])
    | (intro h)
  all_goals first
    | (show lowEdges _ = true; kernel_rfl) | (show logOk _ _ = true; kernel_rfl) | exact True.intro | exact rfl | exact Or.inr rfl | exact Or.inl rfl
    | exact ⟨_, _, rfl⟩
    | exact ⟨_, _, wa, wb, rfl⟩
    | exact ⟨sub a 0 1, sub b 0 1, wa.sub 0 1 (by decide), wb.sub 0 1 (by decide), rfl⟩
    | exact ⟨sub a 1 1, sub b 1 1, wa.sub 1 1 (by decide), wb.sub 1 1 (by decide), rfl⟩
    | exact ⟨sub a 2 1, sub b 2 1, wa.sub 2 1 (by decide), wb.sub 2 1 (by decide), rfl⟩
    | exact ⟨sub a 3 1, sub b 3 1, wa.sub 3 1 (by decide), wb.sub 3 1 (by decide), rfl⟩
    | exact ⟨sub a 4 1, sub b 4 1, wa.sub 4 1 (by decide), wb.sub 4 1 (by decide), rfl⟩
    | exact ⟨sub a 5 1, sub b 5 1, wa.sub 5 1 (by decide), wb.sub 5 1 (by decide), rfl⟩
    | exact ⟨sub a 6 1, sub b 6 1, wa.sub 6 1 (by decide), wb.sub 6 1 (by decide), rfl⟩
    | (exact res_no (fun he => by have e := row_eq wa wb he; subst e; simp_all [eqDs, eqD, str_inj]))
    | (exact res_no (fun he => by have e := row_eq wa wb he; subst e; simp_all [eqDs, eqD, str_inj]))
    | (refine res_yes ?_; simp_all [eqDs, eqD, str_inj, csD, CV.d, rowC, ofD, argG, sub, List.zipIdx, List.range, List.range.loop]; done)
    | (refine res_iff ?_; simp_all [eqDs, eqD, str_inj, csD, CV.d, rowC, ofD, argG, sub, List.zipIdx, List.range, List.range.loop]; done)
    | skip
/-- spec.l41Same -/
theorem ok39 : FOk Try.prog T 39 (eqS 42) := by
  refine fok (env := envL [(32, (eqP [.i .i64, .i .i64, .i .i64, .s, .i .i64, .i .i64, .i .i64, .s, .l 40, .l 9, .l 74] 4)), (42, (eqG [.i .i64, .i .i64, .i .i64, .s, .l 40, .l 9, .l 74]))]) (N := 41) tabT (envL_cons ok32 (envL_cons ok42 envL_nil)) mixed Try.func39 rfl Try.call39 Try.ntmps39 ?_
  rintro args ⟨a, b, rfl⟩ hwf
  refine ⟨by simp, ?_⟩
  have wa : WfD T (.l 42) (.l a) := arg0 hwf (List.mem_singleton_self _)
  have wb : WfD T (.l 42) (.l b) := arg1 hwf (List.mem_singleton_self _)
  clear hwf
  have wA0 := wa
  have wB0 := wb
  have lA0 := wa.len
  rw [Try.results39]
  repeat' first
    | (refine And.intro ?_ ?_)
    | (intro h; cases h)
    | (intro h; rw [h])
    | (intro h)
  all_goals first
    | (show lowEdges _ = true; kernel_rfl) | (show logOk _ _ = true; kernel_rfl) | exact True.intro | exact rfl | exact Or.inr rfl | exact Or.inl rfl
    | exact ⟨_, _, rfl⟩
    | exact res_no (ne_len ‹_›)
    | (refine res_no ?_; rintro rfl; simp_all [eqDs, eqD, str_inj]; done)
    | (refine res_yes ?_; simp_all [eqDs, eqD, str_inj, csD, CV.d, rowC, ofD, argG, sub, List.zipIdx, List.range, List.range.loop]; done)
    | (refine res_iff ?_; simp_all [eqDs, eqD, str_inj, csD, CV.d, rowC, ofD, argG, sub, List.zipIdx, List.range, List.range.loop]; done)
    | skip
  have hl0 : a.length = b.length := eq_len ‹_›
  refine awp_loop (Q := _) [0, 1, 5] [] (fun n s => ∃ i : Int, s = ([argS 42 a, argS 42 b, .val false [.i .i64 i]], []) ∧ 0 ≤ i ∧ i ≤ a.length ∧ n = a.length - i.toNat ∧ a.take i.toNat = b.take i.toNat) ?_ ?_
  · exact ⟨rfl, a.length - 0, _, rfl, by omega, by omega, rfl, rfl⟩
  rintro n0 s ⟨i0, rfl, h10, h20, h30, h40⟩
  repeat' first
    | (refine And.intro ?_ ?_)
    | (intro h; cases h)
    | (intro h; rw [h])
    | (intro h)
  all_goals first
    | (show lowEdges _ = true; kernel_rfl) | (show logOk _ _ = true; kernel_rfl) | exact True.intro | exact rfl | exact Or.inr rfl | exact Or.inl rfl
    | omega
    | exact of_decide_eq_true ‹_›
    | exact hl0 ▸ of_decide_eq_true ‹decide (i0 < (a.length : Int)) = true›
    | exact ⟨_, _, rfl⟩
    | exact res_yes (eq_of_takes hl0 h10 h20 ‹_› h40)
    | (have hi : i0 < (a.length : Int) := of_decide_eq_true ‹decide (i0 < (a.length : Int)) = true›
       have wra0 : WfRow T [.i .i64, .i .i64, .i .i64, .s, .i .i64, .i .i64, .i .i64, .s, .l 40, .l 9, .l 74] (a.getD i0.toNat []) := wA0.row rfl (by omega)
       have wrb0 : WfRow T [.i .i64, .i .i64, .i .i64, .s, .i .i64, .i .i64, .i .i64, .s, .l 40, .l 9, .l 74] (b.getD i0.toNat []) := wB0.row rfl (by omega)
       first
         | exact ⟨_, _, wra0, wrb0, rfl⟩
         | exact ⟨sub (a.getD i0.toNat []) 4 7, sub (b.getD i0.toNat []) 4 7, wra0.sub 4 7 (by decide), wrb0.sub 4 7 (by decide), rfl⟩
         | exact ⟨_, _, wra0, wrb0, Nat.lt_of_lt_of_le (Nat.lt_trans (size_row (by omega)) (size_cell (by rw [wa.1]; decide))) (Nat.le_of_lt_succ hs), rfl⟩
         | (refine res_no ?_; rintro rfl; simp_all [eqDs, eqD, str_inj]; done)
         | (refine ⟨a.length - (i0 + 1).toNat, by omega, i0 + 1, ?_, by omega, by omega, rfl, takes_next h10 hi hl0 h40 (row_eq wra0 wrb0 ?_)⟩
            · exact congrArg (fun z : Int => (([argS 42 a, argS 42 b, .val false [.i .i64 z]], []) : Snap)) (wrap_next h10 hi lA0)
            · simp_all [eqDs, eqD, str_inj, csD, CV.d, rowC, ofD, argG, sub, List.zipIdx, List.range, List.range.loop]))
/-- spec.l42Tapes -/
theorem ok30 : FOk Try.prog T 30 (eqS 32) := by
  refine fok (env := envL [(39, (eqS 42))]) (N := 55) tabT (envL_cons ok39 envL_nil) mixed Try.func30 rfl Try.call30 Try.ntmps30 ?_
  rintro args ⟨a, b, rfl⟩ hwf
  refine ⟨by simp, ?_⟩
  have wa : WfD T (.l 32) (.l a) := arg0 hwf (List.mem_singleton_self _)
  have wb : WfD T (.l 32) (.l b) := arg1 hwf (List.mem_singleton_self _)
  clear hwf
  have wA0 := wa
  have wB0 := wb
  have lA0 := wa.len
  rw [Try.results30]
  repeat' first
    | (refine And.intro ?_ ?_)
    | (intro h; cases h)
    | (intro h; rw [h])
    | (intro h)
  all_goals first
    | (show lowEdges _ = true; kernel_rfl) | (show logOk _ _ = true; kernel_rfl) | exact True.intro | exact rfl | exact Or.inr rfl | exact Or.inl rfl
    | exact ⟨_, _, rfl⟩
    | exact res_no (ne_len ‹_›)
    | (refine res_no ?_; rintro rfl; simp_all [eqDs, eqD, str_inj]; done)
    | (refine res_yes ?_; simp_all [eqDs, eqD, str_inj, csD, CV.d, rowC, ofD, argG, sub, List.zipIdx, List.range, List.range.loop]; done)
    | (refine res_iff ?_; simp_all [eqDs, eqD, str_inj, csD, CV.d, rowC, ofD, argG, sub, List.zipIdx, List.range, List.range.loop]; done)
    | skip
  have hl0 : a.length = b.length := eq_len ‹_›
  refine awp_loop (Q := _) [0, 1, 5] [] (fun n s => ∃ i : Int, s = ([argS 32 a, argS 32 b, .val false [.i .i64 i]], []) ∧ 0 ≤ i ∧ i ≤ a.length ∧ n = a.length - i.toNat ∧ a.take i.toNat = b.take i.toNat) ?_ ?_
  · exact ⟨rfl, a.length - 0, _, rfl, by omega, by omega, rfl, rfl⟩
  rintro n0 s ⟨i0, rfl, h10, h20, h30, h40⟩
  repeat' first
    | (refine And.intro ?_ ?_)
    | (intro h; cases h)
    | (intro h; rw [h])
    | (intro h)
  all_goals first
    | (show lowEdges _ = true; kernel_rfl) | (show logOk _ _ = true; kernel_rfl) | exact True.intro | exact rfl | exact Or.inr rfl | exact Or.inl rfl
    | omega
    | exact of_decide_eq_true ‹_›
    | exact hl0 ▸ of_decide_eq_true ‹decide (i0 < (a.length : Int)) = true›
    | exact ⟨_, _, rfl⟩
    | exact res_yes (eq_of_takes hl0 h10 h20 ‹_› h40)
    | (have hi : i0 < (a.length : Int) := of_decide_eq_true ‹decide (i0 < (a.length : Int)) = true›
       have wra0 : WfRow T [.i .i64, .i .i64, .l 42] (a.getD i0.toNat []) := wA0.row rfl (by omega)
       have wrb0 : WfRow T [.i .i64, .i .i64, .l 42] (b.getD i0.toNat []) := wB0.row rfl (by omega)
       first
         | exact ⟨_, _, wra0, wrb0, rfl⟩
         | exact ⟨_, _, wra0, wrb0, Nat.lt_of_lt_of_le (Nat.lt_trans (size_row (by omega)) (size_cell (by rw [wa.1]; decide))) (Nat.le_of_lt_succ hs), rfl⟩
         | (refine res_no ?_; rintro rfl; simp_all [eqDs, eqD, str_inj]; done)
         | (refine ⟨a.length - (i0 + 1).toNat, by omega, i0 + 1, ?_, by omega, by omega, rfl, takes_next h10 hi hl0 h40 (row_eq wra0 wrb0 ?_)⟩
            · exact congrArg (fun z : Int => (([argS 32 a, argS 32 b, .val false [.i .i64 z]], []) : Snap)) (wrap_next h10 hi lA0)
            · simp_all [eqDs, eqD, str_inj, csD, CV.d, rowC, ofD, argG, sub, List.zipIdx, List.range, List.range.loop]))
/-- spec.EqualNotebook -/
theorem ok29 : FOk Try.prog T 29 (eqG [.l 77]) := by
  refine fok (env := envL []) (N := 31) tabT envL_nil mixed Try.func29 rfl Try.call29 Try.ntmps29 ?_
  rintro args ⟨a, b, wa, wb, rfl⟩ hwf
  refine ⟨by simp, ?_⟩
  clear hwf
  have wA0 : WfD T (.l 77) (.l (a.getD 0 default).rows) := wa.rows (j := 0) rfl
  have wB0 : WfD T (.l 77) (.l (b.getD 0 default).rows) := wb.rows (j := 0) rfl
  have lA0 := wA0.len
  rw [Try.results29]
  repeat' first
    | (refine And.intro ?_ ?_)
    | (intro h; cases h)
    | (intro h; rw [h])
    | (intro h)
  all_goals first
    | (show lowEdges _ = true; kernel_rfl) | (show logOk _ _ = true; kernel_rfl) | exact True.intro | exact rfl | exact Or.inr rfl | exact Or.inl rfl
    | exact ⟨_, _, rfl⟩
    | exact ⟨_, _, wa, wb, rfl⟩
    | exact ⟨sub a 0 1, sub b 0 1, wa.sub 0 1 (by decide), wb.sub 0 1 (by decide), rfl⟩
    | (exact res_no (fun he => by have e := row_eq wa wb he; subst e; simp_all [eqDs, eqD, str_inj]))
    | (exact res_no (fun he => by have e := row_eq wa wb he; subst e; simp_all [eqDs, eqD, str_inj]))
    | (refine res_yes ?_; simp_all [eqDs, eqD, str_inj, csD, CV.d, rowC, ofD, argG, sub, List.zipIdx, List.range, List.range.loop]; done)
    | (refine res_iff ?_; simp_all [eqDs, eqD, str_inj, csD, CV.d, rowC, ofD, argG, sub, List.zipIdx, List.range, List.range.loop]; done)
    | skip
  have hl0 : (a.getD 0 default).rows.length = (b.getD 0 default).rows.length := eq_len ‹(((a.getD 0 default).rows.length : Int) != ((b.getD 0 default).rows.length : Int)) = false›
  refine awp_loop (Q := _) [2, 3, 5] [2, 3] (fun n s => ∃ i : Int, s = ([.ptr 2 1 0, .ptr 3 1 0, .val false [.i .i64 i]], [(1, (rowC [.l 77] a).map fun c => .val false [c]), (1, (rowC [.l 77] b).map fun c => .val false [c])]) ∧ 0 ≤ i ∧ i ≤ (a.getD 0 default).rows.length ∧ n = (a.getD 0 default).rows.length - i.toNat ∧ (a.getD 0 default).rows.take i.toNat = (b.getD 0 default).rows.take i.toNat) ?_ ?_
  · exact ⟨rfl, (a.getD 0 default).rows.length - 0, _, rfl, by omega, by omega, rfl, rfl⟩
  rintro n0 s ⟨i0, rfl, h10, h20, h30, h40⟩
  repeat' first
    | (refine And.intro ?_ ?_)
    | (intro h; cases h)
    | (intro h; rw [h])
    | (intro h)
  all_goals first
    | (show lowEdges _ = true; kernel_rfl) | (show logOk _ _ = true; kernel_rfl) | exact True.intro | exact rfl | exact Or.inr rfl | exact Or.inl rfl
    | omega
    | exact of_decide_eq_true ‹_›
    | exact hl0 ▸ of_decide_eq_true ‹decide (i0 < ((a.getD 0 default).rows.length : Int)) = true›
    | exact ⟨_, _, rfl⟩
    | exact ⟨_, _, wa, wb, rfl⟩
    | exact ⟨sub a 0 1, sub b 0 1, wa.sub 0 1 (by decide), wb.sub 0 1 (by decide), rfl⟩
    | (have hi : i0 < ((a.getD 0 default).rows.length : Int) := of_decide_eq_true ‹decide (i0 < ((a.getD 0 default).rows.length : Int)) = true›
       have wra0 : WfRow T [.i .i64, .i .i64, .i .i64, .s, .s, .i .i64] ((a.getD 0 default).rows.getD i0.toNat []) := wA0.row rfl (by omega)
       have wrb0 : WfRow T [.i .i64, .i .i64, .i .i64, .s, .s, .i .i64] ((b.getD 0 default).rows.getD i0.toNat []) := wB0.row rfl (by omega)
       first
         | exact ⟨_, _, wra0, wrb0, rfl⟩
         | exact ⟨_, _, wra0, wrb0, Nat.lt_of_lt_of_le (Nat.lt_trans (size_row (by omega)) (size_cell (by rw [wa.1]; decide))) (Nat.le_of_lt_succ hs), rfl⟩
         | (exact res_no (fun he => by have e := row_eq wa wb he; subst e; simp_all [eqDs, eqD, str_inj]))
         | (refine ⟨(a.getD 0 default).rows.length - (i0 + 1).toNat, by omega, i0 + 1, ?_, by omega, by omega, rfl, takes_next h10 hi hl0 h40 (row_eq wra0 wrb0 ?_)⟩
            · exact congrArg (fun z : Int => (([.ptr 2 1 0, .ptr 3 1 0, .val false [.i .i64 z]], [(1, (rowC [.l 77] a).map fun c => .val false [c]), (1, (rowC [.l 77] b).map fun c => .val false [c])]) : Snap)) (wrap_next h10 hi lA0)
            · simp_all [eqDs, eqD, str_inj, csD, CV.d, rowC, ofD, argG, sub, List.zipIdx, List.range, List.range.loop]))
    | (have hA0 : (a.getD 0 default).rows = (b.getD 0 default).rows := eq_of_takes hl0 h10 h20 ‹_› h40
       first
         | (refine res_yes ?_; simp_all [eqDs, eqD, str_inj, csD, CV.d, rowC, ofD, argG, sub, List.zipIdx, List.range, List.range.loop]; done)
         | (refine res_iff ?_; simp_all [eqDs, eqD, str_inj, csD, CV.d, rowC, ofD, argG, sub, List.zipIdx, List.range, List.range.loop]; done)
         | (exact res_no (fun he => by have e := row_eq wa wb he; subst e; simp_all [eqDs, eqD, str_inj])))
/-- spec.EqualDocument -/
theorem ok15 : FOk Try.prog T 15 (eqP [.l 77, .l 32, .l 107] 2) := by
  refine fok (env := envL [(29, (eqG [.l 77])), (30, (eqS 32))]) (N := 17) tabT (envL_cons ok29 (envL_cons ok30 envL_nil)) mixed Try.func15 rfl Try.call15 Try.ntmps15 ?_
  rintro args ⟨a, b, wa, wb, rfl⟩ hwf
  refine ⟨by simp, ?_⟩
  clear hwf
  rw [Try.results15]
  repeat' first
    | (refine And.intro ?_ ?_)
    | (intro h; cases h)
    | (intro h; rw [h])
    | (intro h)
  all_goals first
    | (show lowEdges _ = true; kernel_rfl) | (show logOk _ _ = true; kernel_rfl) | exact True.intro | exact rfl | exact Or.inr rfl | exact Or.inl rfl
    | exact ⟨_, _, rfl⟩
    | exact ⟨sub a 0 1, sub b 0 1, wa.sub 0 1 (by decide), wb.sub 0 1 (by decide), rfl⟩
    | exact ⟨sub a 1 1, sub b 1 1, wa.sub 1 1 (by decide), wb.sub 1 1 (by decide), rfl⟩
    | exact ⟨sub a 2 1, sub b 2 1, wa.sub 2 1 (by decide), wb.sub 2 1 (by decide), rfl⟩
    | (refine res_no ?_; simp_all [eqDs, eqD, str_inj, csD, CV.d, rowC, ofD, argG, sub, List.zipIdx, List.range, List.range.loop]; done)
    | (refine res_no ?_; simp_all [eqDs, eqD, str_inj, csD, CV.d, rowC, ofD, argG, sub, List.zipIdx, List.range, List.range.loop]; done)
    | (refine res_yes ?_; simp_all [eqDs, eqD, str_inj, csD, CV.d, rowC, ofD, argG, sub, List.zipIdx, List.range, List.range.loop]; done)
    | (refine res_iff ?_; simp_all [eqDs, eqD, str_inj, csD, CV.d, rowC, ofD, argG, sub, List.zipIdx, List.range, List.range.loop]; done)
    | skip
end Go.Proofs.Ytfmjpoibfpgfbaa.Ab
