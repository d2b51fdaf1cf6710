/- Comparisons: printed by a program of this claim. -/
import Derived.Test.YtijnlnmoellbaaaGreatEd
namespace Go.Proofs.YtijnlnmoellbaaaGreat.Ab
open Go.RowKit
set_option linter.unusedVariables false
set_option linter.unusedSimpArgs false
set_option maxRecDepth 100000
set_option maxHeartbeats 1000000
/-- laws.eqCell -/
theorem ok142 : FOk Tryz.prog T 142 (eqG [.i .i64, .i .i64, .i .i64, .s, .s, .i .i64]) := by
  refine fok (env := envL []) (N := 35) tabT envL_nil mixed Tryz.func142 rfl Tryz.call142 Tryz.ntmps142 ?_
  rintro args ⟨a, b, wa, wb, rfl⟩ _
  refine ⟨by simp, ?_⟩
  rw [Tryz.results142]
  repeat' first
    | (refine And.intro ?_ ?_)
    | (intro h)
  all_goals first
    | (show lowEdges _ = true; kernel_rfl) | (show logOk _ _ = true; kernel_rfl) | trivial | exact Or.inr rfl | exact Or.inl rfl
    | exact ⟨_, _, rfl⟩
    | exact ⟨_, _, Nat.lt_of_lt_of_le (size_cell (by rw [wa.1]; decide)) (Nat.le_of_lt_succ hs), rfl⟩
    | exact ⟨sub a 0 1, sub b 0 1, wa.sub 0 1 (by decide), wb.sub 0 1 (by decide), rfl⟩ | exact ⟨sub a 1 1, sub b 1 1, wa.sub 1 1 (by decide), wb.sub 1 1 (by decide), rfl⟩ | exact ⟨sub a 2 1, sub b 2 1, wa.sub 2 1 (by decide), wb.sub 2 1 (by decide), rfl⟩ | exact ⟨sub a 3 1, sub b 3 1, wa.sub 3 1 (by decide), wb.sub 3 1 (by decide), rfl⟩ | exact ⟨sub a 4 1, sub b 4 1, wa.sub 4 1 (by decide), wb.sub 4 1 (by decide), rfl⟩ | exact ⟨sub a 5 1, sub b 5 1, wa.sub 5 1 (by decide), wb.sub 5 1 (by decide), rfl⟩
    | (exact res_no (fun he => by have e := row_eq wa wb he; subst e; simp_all))
    | (refine res_yes ?_; simp_all [eqDs, eqD, str_inj, csD, CV.d, rowC, ofD, argG, sub, List.zipIdx, List.range, List.range.loop]; done)
/-- laws.eqCellS -/
theorem ok104 : FOk Tryz.prog T 104 (eqS 90) := by
  refine fok (env := envL [(142, (eqG [.i .i64, .i .i64, .i .i64, .s, .s, .i .i64]))]) (N := 27) tabT (envL_cons ok142 envL_nil) mixed Tryz.func104 rfl Tryz.call104 Tryz.ntmps104 ?_
  rintro args ⟨a, b, rfl⟩ hwf
  have wa : WfD T (.l 90) (.l a) := arg0 hwf (List.mem_singleton_self _)
  have wb : WfD T (.l 90) (.l b) := arg1 hwf (List.mem_singleton_self _)
  clear hwf
  have la := wa.len
  refine ⟨by simp, ?_⟩
  rw [Tryz.results104]
  repeat' first
    | (refine And.intro ?_ ?_)
    | (intro h)
  all_goals first
    | (show lowEdges _ = true; kernel_rfl) | (show logOk _ _ = true; kernel_rfl) | trivial | exact Or.inr rfl | exact Or.inl rfl
    | exact res_no (ne_len ‹_›)
    | skip
  have hl := eq_len ‹_›
  refine awp_loop (Q := _) [0, 1, 5] [] (fun n s => ∃ i : Int, s = ([argS 90 a, argS 90 b, .val false [.i .i64 i]], []) ∧ 0 ≤ i ∧ i ≤ a.length ∧ n = a.length - i.toNat ∧ a.take i.toNat = b.take i.toNat) ?_ ?_
  · exact ⟨rfl, a.length - 0, _, rfl, by omega, by omega, rfl, rfl⟩
  rintro n s ⟨i, rfl, h1, h2, h3, h4⟩
  repeat' first
    | (refine And.intro ?_ ?_)
    | (intro h)
  all_goals first
    | (show lowEdges _ = true; kernel_rfl) | (show logOk _ _ = true; kernel_rfl) | trivial | exact Or.inr rfl | exact Or.inl rfl
    | omega
    | exact of_decide_eq_true ‹_›
    | exact hl ▸ of_decide_eq_true ‹decide (i < (a.length : Int)) = true›
    | exact ⟨_, _, rfl⟩
    | exact res_yes (eq_of_takes hl h1 h2 ‹_› h4)
    | (have hi : i < (a.length : Int) := of_decide_eq_true ‹_›
       have wra : WfRow T [.i .i64, .i .i64, .i .i64, .s, .s, .i .i64] (a.getD i.toNat []) := wa.row rfl (by omega)
       have wrb : WfRow T [.i .i64, .i .i64, .i .i64, .s, .s, .i .i64] (b.getD i.toNat []) := wb.row rfl (by omega)
       first
         | exact ⟨_, _, wra, wrb, rfl⟩
         | exact ⟨_, _, wra, wrb, Nat.lt_of_lt_of_le (size_row (by omega)) (Nat.le_of_lt_succ hs), rfl⟩
         | (refine res_no ?_; rintro rfl; simp_all [eqDs, eqD, str_inj]; done)
         | (refine ⟨a.length - (i + 1).toNat, by omega, i + 1, ?_, by omega, by omega, rfl, takes_next h1 hi hl h4 (row_eq wra wrb ?_)⟩
            · exact congrArg (fun z => ([argS 90 a, argS 90 b, .val false [.i .i64 z]], [])) (wrap_next h1 hi la)
            · simp_all [eqDs, eqD, str_inj, csD, CV.d, rowC, ofD, argG, sub, List.zipIdx, List.range, List.range.loop]))
    | rfl
/-- laws.eqNotebook -/
theorem ok66 : FOk Tryz.prog T 66 (eqG [.l 90]) := by
  refine fok (env := envL [(104, (eqS 90))]) (N := 11) tabT (envL_cons ok104 envL_nil) mixed Tryz.func66 rfl Tryz.call66 Tryz.ntmps66 ?_
  rintro args ⟨a, b, wa, wb, rfl⟩ _
  refine ⟨by simp, ?_⟩
  rw [Tryz.results66]
  repeat' first
    | (refine And.intro ?_ ?_)
    | (intro h)
  all_goals first
    | (show lowEdges _ = true; kernel_rfl) | (show logOk _ _ = true; kernel_rfl) | trivial | exact Or.inr rfl | exact Or.inl rfl
    | exact ⟨_, _, rfl⟩
    | exact ⟨_, _, Nat.lt_of_lt_of_le (size_cell (by rw [wa.1]; decide)) (Nat.le_of_lt_succ hs), rfl⟩
    | exact ⟨sub a 0 1, sub b 0 1, wa.sub 0 1 (by decide), wb.sub 0 1 (by decide), rfl⟩
    | (exact res_no (fun he => by have e := row_eq wa wb he; subst e; simp_all))
    | (refine res_yes ?_; simp_all [eqDs, eqD, str_inj, csD, CV.d, rowC, ofD, argG, sub, List.zipIdx, List.range, List.range.loop]; done)
/-- laws.eqFile -/
theorem ok143 : FOk Tryz.prog T 143 (eqG [.s, .i .i64]) := by
  refine fok (env := envL []) (N := 15) tabT envL_nil mixed Tryz.func143 rfl Tryz.call143 Tryz.ntmps143 ?_
  rintro args ⟨a, b, wa, wb, rfl⟩ _
  refine ⟨by simp, ?_⟩
  rw [Tryz.results143]
  repeat' first
    | (refine And.intro ?_ ?_)
    | (intro h)
  all_goals first
    | (show lowEdges _ = true; kernel_rfl) | (show logOk _ _ = true; kernel_rfl) | trivial | exact Or.inr rfl | exact Or.inl rfl
    | exact ⟨_, _, rfl⟩
    | exact ⟨_, _, Nat.lt_of_lt_of_le (size_cell (by rw [wa.1]; decide)) (Nat.le_of_lt_succ hs), rfl⟩
    | exact ⟨sub a 0 1, sub b 0 1, wa.sub 0 1 (by decide), wb.sub 0 1 (by decide), rfl⟩ | exact ⟨sub a 1 1, sub b 1 1, wa.sub 1 1 (by decide), wb.sub 1 1 (by decide), rfl⟩
    | (exact res_no (fun he => by have e := row_eq wa wb he; subst e; simp_all))
    | (refine res_yes ?_; simp_all [eqDs, eqD, str_inj, csD, CV.d, rowC, ofD, argG, sub, List.zipIdx, List.range, List.range.loop]; done)
/-- laws.eqFileS -/
theorem ok105 : FOk Tryz.prog T 105 (eqS 116) := by
  refine fok (env := envL [(143, (eqG [.s, .i .i64]))]) (N := 27) tabT (envL_cons ok143 envL_nil) mixed Tryz.func105 rfl Tryz.call105 Tryz.ntmps105 ?_
  rintro args ⟨a, b, rfl⟩ hwf
  have wa : WfD T (.l 116) (.l a) := arg0 hwf (List.mem_singleton_self _)
  have wb : WfD T (.l 116) (.l b) := arg1 hwf (List.mem_singleton_self _)
  clear hwf
  have la := wa.len
  refine ⟨by simp, ?_⟩
  rw [Tryz.results105]
  repeat' first
    | (refine And.intro ?_ ?_)
    | (intro h)
  all_goals first
    | (show lowEdges _ = true; kernel_rfl) | (show logOk _ _ = true; kernel_rfl) | trivial | exact Or.inr rfl | exact Or.inl rfl
    | exact res_no (ne_len ‹_›)
    | skip
  have hl := eq_len ‹_›
  refine awp_loop (Q := _) [0, 1, 5] [] (fun n s => ∃ i : Int, s = ([argS 116 a, argS 116 b, .val false [.i .i64 i]], []) ∧ 0 ≤ i ∧ i ≤ a.length ∧ n = a.length - i.toNat ∧ a.take i.toNat = b.take i.toNat) ?_ ?_
  · exact ⟨rfl, a.length - 0, _, rfl, by omega, by omega, rfl, rfl⟩
  rintro n s ⟨i, rfl, h1, h2, h3, h4⟩
  repeat' first
    | (refine And.intro ?_ ?_)
    | (intro h)
  all_goals first
    | (show lowEdges _ = true; kernel_rfl) | (show logOk _ _ = true; kernel_rfl) | trivial | exact Or.inr rfl | exact Or.inl rfl
    | omega
    | exact of_decide_eq_true ‹_›
    | exact hl ▸ of_decide_eq_true ‹decide (i < (a.length : Int)) = true›
    | exact ⟨_, _, rfl⟩
    | exact res_yes (eq_of_takes hl h1 h2 ‹_› h4)
    | (have hi : i < (a.length : Int) := of_decide_eq_true ‹_›
       have wra : WfRow T [.s, .i .i64] (a.getD i.toNat []) := wa.row rfl (by omega)
       have wrb : WfRow T [.s, .i .i64] (b.getD i.toNat []) := wb.row rfl (by omega)
       first
         | exact ⟨_, _, wra, wrb, rfl⟩
         | exact ⟨_, _, wra, wrb, Nat.lt_of_lt_of_le (size_row (by omega)) (Nat.le_of_lt_succ hs), rfl⟩
         | (refine res_no ?_; rintro rfl; simp_all [eqDs, eqD, str_inj]; done)
         | (refine ⟨a.length - (i + 1).toNat, by omega, i + 1, ?_, by omega, by omega, rfl, takes_next h1 hi hl h4 (row_eq wra wrb ?_)⟩
            · exact congrArg (fun z => ([argS 116 a, argS 116 b, .val false [.i .i64 z]], [])) (wrap_next h1 hi la)
            · simp_all [eqDs, eqD, str_inj, csD, CV.d, rowC, ofD, argG, sub, List.zipIdx, List.range, List.range.loop]))
    | rfl
/-- laws.eqWorld -/
theorem ok67 : FOk Tryz.prog T 67 (eqG [.i .i64, .i .i64, .l 116]) := by
  refine fok (env := envL [(105, (eqS 116))]) (N := 21) tabT (envL_cons ok105 envL_nil) mixed Tryz.func67 rfl Tryz.call67 Tryz.ntmps67 ?_
  rintro args ⟨a, b, wa, wb, rfl⟩ _
  refine ⟨by simp, ?_⟩
  rw [Tryz.results67]
  repeat' first
    | (refine And.intro ?_ ?_)
    | (intro h)
  all_goals first
    | (show lowEdges _ = true; kernel_rfl) | (show logOk _ _ = true; kernel_rfl) | trivial | exact Or.inr rfl | exact Or.inl rfl
    | exact ⟨_, _, rfl⟩
    | exact ⟨_, _, Nat.lt_of_lt_of_le (size_cell (by rw [wa.1]; decide)) (Nat.le_of_lt_succ hs), rfl⟩
    | exact ⟨sub a 0 1, sub b 0 1, wa.sub 0 1 (by decide), wb.sub 0 1 (by decide), rfl⟩ | exact ⟨sub a 1 1, sub b 1 1, wa.sub 1 1 (by decide), wb.sub 1 1 (by decide), rfl⟩ | exact ⟨sub a 2 1, sub b 2 1, wa.sub 2 1 (by decide), wb.sub 2 1 (by decide), rfl⟩
    | (exact res_no (fun he => by have e := row_eq wa wb he; subst e; simp_all))
    | (refine res_yes ?_; simp_all [eqDs, eqD, str_inj, csD, CV.d, rowC, ofD, argG, sub, List.zipIdx, List.range, List.range.loop]; done)
/-- laws.eqStringS -/
theorem ok174 : FOk Tryz.prog T 174 (eqS 9) := by
  refine fok (env := envL []) (N := 26) tabT envL_nil mixed Tryz.func174 rfl Tryz.call174 Tryz.ntmps174 ?_
  rintro args ⟨a, b, rfl⟩ hwf
  have wa : WfD T (.l 9) (.l a) := arg0 hwf (List.mem_singleton_self _)
  have wb : WfD T (.l 9) (.l b) := arg1 hwf (List.mem_singleton_self _)
  clear hwf
  have la := wa.len
  refine ⟨by simp, ?_⟩
  rw [Tryz.results174]
  repeat' first
    | (refine And.intro ?_ ?_)
    | (intro h)
  all_goals first
    | (show lowEdges _ = true; kernel_rfl) | (show logOk _ _ = true; kernel_rfl) | trivial | exact Or.inr rfl | exact Or.inl rfl
    | exact res_no (ne_len ‹_›)
    | skip
  have hl := eq_len ‹_›
  refine awp_loop (Q := _) [0, 1, 5] [] (fun n s => ∃ i : Int, s = ([argS 9 a, argS 9 b, .val false [.i .i64 i]], []) ∧ 0 ≤ i ∧ i ≤ a.length ∧ n = a.length - i.toNat ∧ a.take i.toNat = b.take i.toNat) ?_ ?_
  · exact ⟨rfl, a.length - 0, _, rfl, by omega, by omega, rfl, rfl⟩
  rintro n s ⟨i, rfl, h1, h2, h3, h4⟩
  repeat' first
    | (refine And.intro ?_ ?_)
    | (intro h)
  all_goals first
    | (show lowEdges _ = true; kernel_rfl) | (show logOk _ _ = true; kernel_rfl) | trivial | exact Or.inr rfl | exact Or.inl rfl
    | omega
    | exact of_decide_eq_true ‹_›
    | exact hl ▸ of_decide_eq_true ‹decide (i < (a.length : Int)) = true›
    | exact ⟨_, _, rfl⟩
    | exact res_yes (eq_of_takes hl h1 h2 ‹_› h4)
    | (have hi : i < (a.length : Int) := of_decide_eq_true ‹_›
       have wra : WfRow T [.s] (a.getD i.toNat []) := wa.row rfl (by omega)
       have wrb : WfRow T [.s] (b.getD i.toNat []) := wb.row rfl (by omega)
       first
         | exact ⟨_, _, wra, wrb, rfl⟩
         | exact ⟨_, _, wra, wrb, Nat.lt_of_lt_of_le (size_row (by omega)) (Nat.le_of_lt_succ hs), rfl⟩
         | (refine res_no ?_; rintro rfl; simp_all [eqDs, eqD, str_inj]; done)
         | (refine ⟨a.length - (i + 1).toNat, by omega, i + 1, ?_, by omega, by omega, rfl, takes_next h1 hi hl h4 (row_eq wra wrb ?_)⟩
            · exact congrArg (fun z => ([argS 9 a, argS 9 b, .val false [.i .i64 z]], [])) (wrap_next h1 hi la)
            · simp_all [eqDs, eqD, str_inj, csD, CV.d, rowC, ofD, argG, sub, List.zipIdx, List.range, List.range.loop]))
    | rfl
/-- laws.eqIntS -/
theorem ok145 : FOk Tryz.prog T 145 (eqS 3) := by
  refine fok (env := envL []) (N := 26) tabT envL_nil mixed Tryz.func145 rfl Tryz.call145 Tryz.ntmps145 ?_
  rintro args ⟨a, b, rfl⟩ hwf
  have wa : WfD T (.l 3) (.l a) := arg0 hwf (List.mem_singleton_self _)
  have wb : WfD T (.l 3) (.l b) := arg1 hwf (List.mem_singleton_self _)
  clear hwf
  have la := wa.len
  refine ⟨by simp, ?_⟩
  rw [Tryz.results145]
  repeat' first
    | (refine And.intro ?_ ?_)
    | (intro h)
  all_goals first
    | (show lowEdges _ = true; kernel_rfl) | (show logOk _ _ = true; kernel_rfl) | trivial | exact Or.inr rfl | exact Or.inl rfl
    | exact res_no (ne_len ‹_›)
    | skip
  have hl := eq_len ‹_›
  refine awp_loop (Q := _) [0, 1, 5] [] (fun n s => ∃ i : Int, s = ([argS 3 a, argS 3 b, .val false [.i .i64 i]], []) ∧ 0 ≤ i ∧ i ≤ a.length ∧ n = a.length - i.toNat ∧ a.take i.toNat = b.take i.toNat) ?_ ?_
  · exact ⟨rfl, a.length - 0, _, rfl, by omega, by omega, rfl, rfl⟩
  rintro n s ⟨i, rfl, h1, h2, h3, h4⟩
  repeat' first
    | (refine And.intro ?_ ?_)
    | (intro h)
  all_goals first
    | (show lowEdges _ = true; kernel_rfl) | (show logOk _ _ = true; kernel_rfl) | trivial | exact Or.inr rfl | exact Or.inl rfl
    | omega
    | exact of_decide_eq_true ‹_›
    | exact hl ▸ of_decide_eq_true ‹decide (i < (a.length : Int)) = true›
    | exact ⟨_, _, rfl⟩
    | exact res_yes (eq_of_takes hl h1 h2 ‹_› h4)
    | (have hi : i < (a.length : Int) := of_decide_eq_true ‹_›
       have wra : WfRow T [.i .i64] (a.getD i.toNat []) := wa.row rfl (by omega)
       have wrb : WfRow T [.i .i64] (b.getD i.toNat []) := wb.row rfl (by omega)
       first
         | exact ⟨_, _, wra, wrb, rfl⟩
         | exact ⟨_, _, wra, wrb, Nat.lt_of_lt_of_le (size_row (by omega)) (Nat.le_of_lt_succ hs), rfl⟩
         | (refine res_no ?_; rintro rfl; simp_all [eqDs, eqD, str_inj]; done)
         | (refine ⟨a.length - (i + 1).toNat, by omega, i + 1, ?_, by omega, by omega, rfl, takes_next h1 hi hl h4 (row_eq wra wrb ?_)⟩
            · exact congrArg (fun z => ([argS 3 a, argS 3 b, .val false [.i .i64 z]], [])) (wrap_next h1 hi la)
            · simp_all [eqDs, eqD, str_inj, csD, CV.d, rowC, ofD, argG, sub, List.zipIdx, List.range, List.range.loop]))
    | rfl
/-- laws.eqOrigin -/
theorem ok209 : FOk Tryz.prog T 209 (eqG [.i .i64, .i .i64]) := by
  refine fok (env := envL []) (N := 15) tabT envL_nil mixed Tryz.func209 rfl Tryz.call209 Tryz.ntmps209 ?_
  rintro args ⟨a, b, wa, wb, rfl⟩ _
  refine ⟨by simp, ?_⟩
  rw [Tryz.results209]
  repeat' first
    | (refine And.intro ?_ ?_)
    | (intro h)
  all_goals first
    | (show lowEdges _ = true; kernel_rfl) | (show logOk _ _ = true; kernel_rfl) | trivial | exact Or.inr rfl | exact Or.inl rfl
    | exact ⟨_, _, rfl⟩
    | exact ⟨_, _, Nat.lt_of_lt_of_le (size_cell (by rw [wa.1]; decide)) (Nat.le_of_lt_succ hs), rfl⟩
    | exact ⟨sub a 0 1, sub b 0 1, wa.sub 0 1 (by decide), wb.sub 0 1 (by decide), rfl⟩ | exact ⟨sub a 1 1, sub b 1 1, wa.sub 1 1 (by decide), wb.sub 1 1 (by decide), rfl⟩
    | (exact res_no (fun he => by have e := row_eq wa wb he; subst e; simp_all))
    | (refine res_yes ?_; simp_all [eqDs, eqD, str_inj, csD, CV.d, rowC, ofD, argG, sub, List.zipIdx, List.range, List.range.loop]; done)
/-- laws.eqOriginS -/
theorem ok199 : FOk Tryz.prog T 199 (eqS 198) := by
  refine fok (env := envL [(209, (eqG [.i .i64, .i .i64]))]) (N := 27) tabT (envL_cons ok209 envL_nil) mixed Tryz.func199 rfl Tryz.call199 Tryz.ntmps199 ?_
  rintro args ⟨a, b, rfl⟩ hwf
  have wa : WfD T (.l 198) (.l a) := arg0 hwf (List.mem_singleton_self _)
  have wb : WfD T (.l 198) (.l b) := arg1 hwf (List.mem_singleton_self _)
  clear hwf
  have la := wa.len
  refine ⟨by simp, ?_⟩
  rw [Tryz.results199]
  repeat' first
    | (refine And.intro ?_ ?_)
    | (intro h)
  all_goals first
    | (show lowEdges _ = true; kernel_rfl) | (show logOk _ _ = true; kernel_rfl) | trivial | exact Or.inr rfl | exact Or.inl rfl
    | exact res_no (ne_len ‹_›)
    | skip
  have hl := eq_len ‹_›
  refine awp_loop (Q := _) [0, 1, 5] [] (fun n s => ∃ i : Int, s = ([argS 198 a, argS 198 b, .val false [.i .i64 i]], []) ∧ 0 ≤ i ∧ i ≤ a.length ∧ n = a.length - i.toNat ∧ a.take i.toNat = b.take i.toNat) ?_ ?_
  · exact ⟨rfl, a.length - 0, _, rfl, by omega, by omega, rfl, rfl⟩
  rintro n s ⟨i, rfl, h1, h2, h3, h4⟩
  repeat' first
    | (refine And.intro ?_ ?_)
    | (intro h)
  all_goals first
    | (show lowEdges _ = true; kernel_rfl) | (show logOk _ _ = true; kernel_rfl) | trivial | exact Or.inr rfl | exact Or.inl rfl
    | omega
    | exact of_decide_eq_true ‹_›
    | exact hl ▸ of_decide_eq_true ‹decide (i < (a.length : Int)) = true›
    | exact ⟨_, _, rfl⟩
    | exact res_yes (eq_of_takes hl h1 h2 ‹_› h4)
    | (have hi : i < (a.length : Int) := of_decide_eq_true ‹_›
       have wra : WfRow T [.i .i64, .i .i64] (a.getD i.toNat []) := wa.row rfl (by omega)
       have wrb : WfRow T [.i .i64, .i .i64] (b.getD i.toNat []) := wb.row rfl (by omega)
       first
         | exact ⟨_, _, wra, wrb, rfl⟩
         | exact ⟨_, _, wra, wrb, Nat.lt_of_lt_of_le (size_row (by omega)) (Nat.le_of_lt_succ hs), rfl⟩
         | (refine res_no ?_; rintro rfl; simp_all [eqDs, eqD, str_inj]; done)
         | (refine ⟨a.length - (i + 1).toNat, by omega, i + 1, ?_, by omega, by omega, rfl, takes_next h1 hi hl h4 (row_eq wra wrb ?_)⟩
            · exact congrArg (fun z => ([argS 198 a, argS 198 b, .val false [.i .i64 z]], [])) (wrap_next h1 hi la)
            · simp_all [eqDs, eqD, str_inj, csD, CV.d, rowC, ofD, argG, sub, List.zipIdx, List.range, List.range.loop]))
    | rfl
/-- laws.eqRow -/
theorem ok184 : FOk Tryz.prog T 184 (eqG [.l 3, .l 198]) := by
  refine fok (env := envL [(145, (eqS 3)), (199, (eqS 198))]) (N := 17) tabT (envL_cons ok145 (envL_cons ok199 envL_nil)) mixed Tryz.func184 rfl Tryz.call184 Tryz.ntmps184 ?_
  rintro args ⟨a, b, wa, wb, rfl⟩ _
  refine ⟨by simp, ?_⟩
  rw [Tryz.results184]
  repeat' first
    | (refine And.intro ?_ ?_)
    | (intro h)
  all_goals first
    | (show lowEdges _ = true; kernel_rfl) | (show logOk _ _ = true; kernel_rfl) | trivial | exact Or.inr rfl | exact Or.inl rfl
    | exact ⟨_, _, rfl⟩
    | exact ⟨_, _, Nat.lt_of_lt_of_le (size_cell (by rw [wa.1]; decide)) (Nat.le_of_lt_succ hs), rfl⟩
    | exact ⟨sub a 0 1, sub b 0 1, wa.sub 0 1 (by decide), wb.sub 0 1 (by decide), rfl⟩ | exact ⟨sub a 1 1, sub b 1 1, wa.sub 1 1 (by decide), wb.sub 1 1 (by decide), rfl⟩
    | (exact res_no (fun he => by have e := row_eq wa wb he; subst e; simp_all))
    | (refine res_yes ?_; simp_all [eqDs, eqD, str_inj, csD, CV.d, rowC, ofD, argG, sub, List.zipIdx, List.range, List.range.loop]; done)
/-- laws.eqRowS -/
theorem ok175 : FOk Tryz.prog T 175 (eqS 189) := by
  refine fok (env := envL [(184, (eqG [.l 3, .l 198]))]) (N := 27) tabT (envL_cons ok184 envL_nil) mixed Tryz.func175 rfl Tryz.call175 Tryz.ntmps175 ?_
  rintro args ⟨a, b, rfl⟩ hwf
  have wa : WfD T (.l 189) (.l a) := arg0 hwf (List.mem_singleton_self _)
  have wb : WfD T (.l 189) (.l b) := arg1 hwf (List.mem_singleton_self _)
  clear hwf
  have la := wa.len
  refine ⟨by simp, ?_⟩
  rw [Tryz.results175]
  repeat' first
    | (refine And.intro ?_ ?_)
    | (intro h)
  all_goals first
    | (show lowEdges _ = true; kernel_rfl) | (show logOk _ _ = true; kernel_rfl) | trivial | exact Or.inr rfl | exact Or.inl rfl
    | exact res_no (ne_len ‹_›)
    | skip
  have hl := eq_len ‹_›
  refine awp_loop (Q := _) [0, 1, 5] [] (fun n s => ∃ i : Int, s = ([argS 189 a, argS 189 b, .val false [.i .i64 i]], []) ∧ 0 ≤ i ∧ i ≤ a.length ∧ n = a.length - i.toNat ∧ a.take i.toNat = b.take i.toNat) ?_ ?_
  · exact ⟨rfl, a.length - 0, _, rfl, by omega, by omega, rfl, rfl⟩
  rintro n s ⟨i, rfl, h1, h2, h3, h4⟩
  repeat' first
    | (refine And.intro ?_ ?_)
    | (intro h)
  all_goals first
    | (show lowEdges _ = true; kernel_rfl) | (show logOk _ _ = true; kernel_rfl) | trivial | exact Or.inr rfl | exact Or.inl rfl
    | omega
    | exact of_decide_eq_true ‹_›
    | exact hl ▸ of_decide_eq_true ‹decide (i < (a.length : Int)) = true›
    | exact ⟨_, _, rfl⟩
    | exact res_yes (eq_of_takes hl h1 h2 ‹_› h4)
    | (have hi : i < (a.length : Int) := of_decide_eq_true ‹_›
       have wra : WfRow T [.l 3, .l 198] (a.getD i.toNat []) := wa.row rfl (by omega)
       have wrb : WfRow T [.l 3, .l 198] (b.getD i.toNat []) := wb.row rfl (by omega)
       first
         | exact ⟨_, _, wra, wrb, rfl⟩
         | exact ⟨_, _, wra, wrb, Nat.lt_of_lt_of_le (size_row (by omega)) (Nat.le_of_lt_succ hs), rfl⟩
         | (refine res_no ?_; rintro rfl; simp_all [eqDs, eqD, str_inj]; done)
         | (refine ⟨a.length - (i + 1).toNat, by omega, i + 1, ?_, by omega, by omega, rfl, takes_next h1 hi hl h4 (row_eq wra wrb ?_)⟩
            · exact congrArg (fun z => ([argS 189 a, argS 189 b, .val false [.i .i64 z]], [])) (wrap_next h1 hi la)
            · simp_all [eqDs, eqD, str_inj, csD, CV.d, rowC, ofD, argG, sub, List.zipIdx, List.range, List.range.loop]))
    | rfl
/-- laws.eqValue -/
theorem step146 (n : Nat) (hn : FOk Tryz.prog T 173 (eqSn 103 n)) : FOk Tryz.prog T 146 (eqGn [.i .i64, .i .i64, .i .i64, .s, .l 103, .l 9, .l 189] (n + 1)) := by
  refine fok (env := envL [(173, (eqSn 103 n)), (174, (eqS 9)), (175, (eqS 189))]) (N := 43) tabT (envL_cons hn (envL_cons ok174 (envL_cons ok175 envL_nil))) mixed Tryz.func146 rfl Tryz.call146 Tryz.ntmps146 ?_
  rintro args ⟨a, b, wa, wb, hs, rfl⟩ _
  refine ⟨by simp, ?_⟩
  rw [Tryz.results146]
  repeat' first
    | (refine And.intro ?_ ?_)
    | (intro h)
  all_goals first
    | (show lowEdges _ = true; kernel_rfl) | (show logOk _ _ = true; kernel_rfl) | trivial | exact Or.inr rfl | exact Or.inl rfl
    | exact ⟨_, _, rfl⟩
    | exact ⟨_, _, Nat.lt_of_lt_of_le (size_cell (by rw [wa.1]; decide)) (Nat.le_of_lt_succ hs), rfl⟩
    | exact ⟨sub a 0 1, sub b 0 1, wa.sub 0 1 (by decide), wb.sub 0 1 (by decide), rfl⟩ | exact ⟨sub a 1 1, sub b 1 1, wa.sub 1 1 (by decide), wb.sub 1 1 (by decide), rfl⟩ | exact ⟨sub a 2 1, sub b 2 1, wa.sub 2 1 (by decide), wb.sub 2 1 (by decide), rfl⟩ | exact ⟨sub a 3 1, sub b 3 1, wa.sub 3 1 (by decide), wb.sub 3 1 (by decide), rfl⟩ | exact ⟨sub a 4 1, sub b 4 1, wa.sub 4 1 (by decide), wb.sub 4 1 (by decide), rfl⟩ | exact ⟨sub a 5 1, sub b 5 1, wa.sub 5 1 (by decide), wb.sub 5 1 (by decide), rfl⟩ | exact ⟨sub a 6 1, sub b 6 1, wa.sub 6 1 (by decide), wb.sub 6 1 (by decide), rfl⟩
    | (exact res_no (fun he => by have e := row_eq wa wb he; subst e; simp_all))
    | (refine res_yes ?_; simp_all [eqDs, eqD, str_inj, csD, CV.d, rowC, ofD, argG, sub, List.zipIdx, List.range, List.range.loop]; done)
/-- laws.eqValueS -/
theorem step173 (n : Nat) (hn : FOk Tryz.prog T 146 (eqGn [.i .i64, .i .i64, .i .i64, .s, .l 103, .l 9, .l 189] n)) : FOk Tryz.prog T 173 (eqSn 103 (n + 1)) := by
  refine fok (env := envL [(146, (eqGn [.i .i64, .i .i64, .i .i64, .s, .l 103, .l 9, .l 189] n))]) (N := 27) tabT (envL_cons hn envL_nil) mixed Tryz.func173 rfl Tryz.call173 Tryz.ntmps173 ?_
  rintro args ⟨a, b, hs, rfl⟩ hwf
  have wa : WfD T (.l 103) (.l a) := arg0 hwf (List.mem_singleton_self _)
  have wb : WfD T (.l 103) (.l b) := arg1 hwf (List.mem_singleton_self _)
  clear hwf
  have la := wa.len
  refine ⟨by simp, ?_⟩
  rw [Tryz.results173]
  repeat' first
    | (refine And.intro ?_ ?_)
    | (intro h)
  all_goals first
    | (show lowEdges _ = true; kernel_rfl) | (show logOk _ _ = true; kernel_rfl) | trivial | exact Or.inr rfl | exact Or.inl rfl
    | exact res_no (ne_len ‹_›)
    | skip
  have hl := eq_len ‹_›
  refine awp_loop (Q := _) [0, 1, 5] [] (fun n s => ∃ i : Int, s = ([argS 103 a, argS 103 b, .val false [.i .i64 i]], []) ∧ 0 ≤ i ∧ i ≤ a.length ∧ n = a.length - i.toNat ∧ a.take i.toNat = b.take i.toNat) ?_ ?_
  · exact ⟨rfl, a.length - 0, _, rfl, by omega, by omega, rfl, rfl⟩
  rintro n s ⟨i, rfl, h1, h2, h3, h4⟩
  repeat' first
    | (refine And.intro ?_ ?_)
    | (intro h)
  all_goals first
    | (show lowEdges _ = true; kernel_rfl) | (show logOk _ _ = true; kernel_rfl) | trivial | exact Or.inr rfl | exact Or.inl rfl
    | omega
    | exact of_decide_eq_true ‹_›
    | exact hl ▸ of_decide_eq_true ‹decide (i < (a.length : Int)) = true›
    | exact ⟨_, _, rfl⟩
    | exact res_yes (eq_of_takes hl h1 h2 ‹_› h4)
    | (have hi : i < (a.length : Int) := of_decide_eq_true ‹_›
       have wra : WfRow T [.i .i64, .i .i64, .i .i64, .s, .l 103, .l 9, .l 189] (a.getD i.toNat []) := wa.row rfl (by omega)
       have wrb : WfRow T [.i .i64, .i .i64, .i .i64, .s, .l 103, .l 9, .l 189] (b.getD i.toNat []) := wb.row rfl (by omega)
       first
         | exact ⟨_, _, wra, wrb, rfl⟩
         | exact ⟨_, _, wra, wrb, Nat.lt_of_lt_of_le (size_row (by omega)) (Nat.le_of_lt_succ hs), rfl⟩
         | (refine res_no ?_; rintro rfl; simp_all [eqDs, eqD, str_inj]; done)
         | (refine ⟨a.length - (i + 1).toNat, by omega, i + 1, ?_, by omega, by omega, rfl, takes_next h1 hi hl h4 (row_eq wra wrb ?_)⟩
            · exact congrArg (fun z => ([argS 103 a, argS 103 b, .val false [.i .i64 z]], [])) (wrap_next h1 hi la)
            · simp_all [eqDs, eqD, str_inj, csD, CV.d, rowC, ofD, argG, sub, List.zipIdx, List.range, List.range.loop]))
    | rfl
theorem zero146 : FOk Tryz.prog T 146 (eqGn [.i .i64, .i .i64, .i .i64, .s, .l 103, .l 9, .l 189] 0) := by
  refine fok (env := envL []) (N := 43) tabT envL_nil mixed Tryz.func146 rfl Tryz.call146 Tryz.ntmps146 ?_
  rintro args ⟨a, b, wa, wb, hs, rfl⟩ _
  exact absurd hs (Nat.not_lt_zero _)
theorem zero173 : FOk Tryz.prog T 173 (eqSn 103 0) := by
  refine fok (env := envL []) (N := 27) tabT envL_nil mixed Tryz.func173 rfl Tryz.call173 Tryz.ntmps173 ?_
  rintro args ⟨a, b, hs, rfl⟩ _
  exact absurd hs (Nat.not_lt_zero _)
theorem both146 (n : Nat) : FOk Tryz.prog T 146 (eqGn [.i .i64, .i .i64, .i .i64, .s, .l 103, .l 9, .l 189] n) ∧ FOk Tryz.prog T 173 (eqSn 103 n) := by
  induction n with
  | zero => exact ⟨zero146, zero173⟩
  | succ n ih => exact ⟨step146 n ih.2, step173 n ih.1⟩
theorem ok146 : FOk Tryz.prog T 146 (eqG [.i .i64, .i .i64, .i .i64, .s, .l 103, .l 9, .l 189]) := FOk.lift (s := fun n => (eqGn [.i .i64, .i .i64, .i .i64, .s, .l 103, .l 9, .l 189] n)) (fun n => (both146 n).1) (fun args ⟨a, b, wa, wb, h⟩ => ⟨SizeOf.sizeOf a + 1, a, b, wa, wb, Nat.lt_succ_self _, h⟩) (fun n => rfl)
theorem ok173 : FOk Tryz.prog T 173 (eqS 103) := FOk.lift (s := fun n => (eqSn 103 n)) (fun n => (both146 n).2) (fun args ⟨a, b, h⟩ => ⟨SizeOf.sizeOf a + 1, a, b, Nat.lt_succ_self _, h⟩) (fun n => rfl)
/-- laws.eqRead -/
theorem ok172 : FOk Tryz.prog T 172 (eqG [.i .i64, .i .i64, .i .i64, .s, .i .i64, .i .i64, .i .i64, .s, .l 103, .l 9, .l 189]) := by
  refine fok (env := envL [(146, (eqG [.i .i64, .i .i64, .i .i64, .s, .l 103, .l 9, .l 189]))]) (N := 31) tabT (envL_cons ok146 envL_nil) mixed Tryz.func172 rfl Tryz.call172 Tryz.ntmps172 ?_
  rintro args ⟨a, b, wa, wb, rfl⟩ _
  refine ⟨by simp, ?_⟩
  rw [Tryz.results172]
  repeat' first
    | (refine And.intro ?_ ?_)
    | (intro h)
  all_goals first
    | (show lowEdges _ = true; kernel_rfl) | (show logOk _ _ = true; kernel_rfl) | trivial | exact Or.inr rfl | exact Or.inl rfl
    | exact ⟨_, _, rfl⟩
    | exact ⟨_, _, Nat.lt_of_lt_of_le (size_cell (by rw [wa.1]; decide)) (Nat.le_of_lt_succ hs), rfl⟩
    | exact ⟨sub a 0 1, sub b 0 1, wa.sub 0 1 (by decide), wb.sub 0 1 (by decide), rfl⟩ | exact ⟨sub a 1 1, sub b 1 1, wa.sub 1 1 (by decide), wb.sub 1 1 (by decide), rfl⟩ | exact ⟨sub a 2 1, sub b 2 1, wa.sub 2 1 (by decide), wb.sub 2 1 (by decide), rfl⟩ | exact ⟨sub a 3 1, sub b 3 1, wa.sub 3 1 (by decide), wb.sub 3 1 (by decide), rfl⟩ | exact ⟨sub a 4 7, sub b 4 7, wa.sub 4 7 (by decide), wb.sub 4 7 (by decide), rfl⟩
    | (exact res_no (fun he => by have e := row_eq wa wb he; subst e; simp_all))
    | (refine res_yes ?_; simp_all [eqDs, eqD, str_inj, csD, CV.d, rowC, ofD, argG, sub, List.zipIdx, List.range, List.range.loop]; done)
/-- laws.eqReadS -/
theorem ok144 : FOk Tryz.prog T 144 (eqS 185) := by
  refine fok (env := envL [(172, (eqG [.i .i64, .i .i64, .i .i64, .s, .i .i64, .i .i64, .i .i64, .s, .l 103, .l 9, .l 189]))]) (N := 27) tabT (envL_cons ok172 envL_nil) mixed Tryz.func144 rfl Tryz.call144 Tryz.ntmps144 ?_
  rintro args ⟨a, b, rfl⟩ hwf
  have wa : WfD T (.l 185) (.l a) := arg0 hwf (List.mem_singleton_self _)
  have wb : WfD T (.l 185) (.l b) := arg1 hwf (List.mem_singleton_self _)
  clear hwf
  have la := wa.len
  refine ⟨by simp, ?_⟩
  rw [Tryz.results144]
  repeat' first
    | (refine And.intro ?_ ?_)
    | (intro h)
  all_goals first
    | (show lowEdges _ = true; kernel_rfl) | (show logOk _ _ = true; kernel_rfl) | trivial | exact Or.inr rfl | exact Or.inl rfl
    | exact res_no (ne_len ‹_›)
    | skip
  have hl := eq_len ‹_›
  refine awp_loop (Q := _) [0, 1, 5] [] (fun n s => ∃ i : Int, s = ([argS 185 a, argS 185 b, .val false [.i .i64 i]], []) ∧ 0 ≤ i ∧ i ≤ a.length ∧ n = a.length - i.toNat ∧ a.take i.toNat = b.take i.toNat) ?_ ?_
  · exact ⟨rfl, a.length - 0, _, rfl, by omega, by omega, rfl, rfl⟩
  rintro n s ⟨i, rfl, h1, h2, h3, h4⟩
  repeat' first
    | (refine And.intro ?_ ?_)
    | (intro h)
  all_goals first
    | (show lowEdges _ = true; kernel_rfl) | (show logOk _ _ = true; kernel_rfl) | trivial | exact Or.inr rfl | exact Or.inl rfl
    | omega
    | exact of_decide_eq_true ‹_›
    | exact hl ▸ of_decide_eq_true ‹decide (i < (a.length : Int)) = true›
    | exact ⟨_, _, rfl⟩
    | exact res_yes (eq_of_takes hl h1 h2 ‹_› h4)
    | (have hi : i < (a.length : Int) := of_decide_eq_true ‹_›
       have wra : WfRow T [.i .i64, .i .i64, .i .i64, .s, .i .i64, .i .i64, .i .i64, .s, .l 103, .l 9, .l 189] (a.getD i.toNat []) := wa.row rfl (by omega)
       have wrb : WfRow T [.i .i64, .i .i64, .i .i64, .s, .i .i64, .i .i64, .i .i64, .s, .l 103, .l 9, .l 189] (b.getD i.toNat []) := wb.row rfl (by omega)
       first
         | exact ⟨_, _, wra, wrb, rfl⟩
         | exact ⟨_, _, wra, wrb, Nat.lt_of_lt_of_le (size_row (by omega)) (Nat.le_of_lt_succ hs), rfl⟩
         | (refine res_no ?_; rintro rfl; simp_all [eqDs, eqD, str_inj]; done)
         | (refine ⟨a.length - (i + 1).toNat, by omega, i + 1, ?_, by omega, by omega, rfl, takes_next h1 hi hl h4 (row_eq wra wrb ?_)⟩
            · exact congrArg (fun z => ([argS 185 a, argS 185 b, .val false [.i .i64 z]], [])) (wrap_next h1 hi la)
            · simp_all [eqDs, eqD, str_inj, csD, CV.d, rowC, ofD, argG, sub, List.zipIdx, List.range, List.range.loop]))
    | rfl
/-- laws.eqTape -/
theorem ok106 : FOk Tryz.prog T 106 (eqG [.i .i64, .i .i64, .l 185]) := by
  refine fok (env := envL [(144, (eqS 185))]) (N := 21) tabT (envL_cons ok144 envL_nil) mixed Tryz.func106 rfl Tryz.call106 Tryz.ntmps106 ?_
  rintro args ⟨a, b, wa, wb, rfl⟩ _
  refine ⟨by simp, ?_⟩
  rw [Tryz.results106]
  repeat' first
    | (refine And.intro ?_ ?_)
    | (intro h)
  all_goals first
    | (show lowEdges _ = true; kernel_rfl) | (show logOk _ _ = true; kernel_rfl) | trivial | exact Or.inr rfl | exact Or.inl rfl
    | exact ⟨_, _, rfl⟩
    | exact ⟨_, _, Nat.lt_of_lt_of_le (size_cell (by rw [wa.1]; decide)) (Nat.le_of_lt_succ hs), rfl⟩
    | exact ⟨sub a 0 1, sub b 0 1, wa.sub 0 1 (by decide), wb.sub 0 1 (by decide), rfl⟩ | exact ⟨sub a 1 1, sub b 1 1, wa.sub 1 1 (by decide), wb.sub 1 1 (by decide), rfl⟩ | exact ⟨sub a 2 1, sub b 2 1, wa.sub 2 1 (by decide), wb.sub 2 1 (by decide), rfl⟩
    | (exact res_no (fun he => by have e := row_eq wa wb he; subst e; simp_all))
    | (refine res_yes ?_; simp_all [eqDs, eqD, str_inj, csD, CV.d, rowC, ofD, argG, sub, List.zipIdx, List.range, List.range.loop]; done)
/-- laws.eqTapeS -/
theorem ok68 : FOk Tryz.prog T 68 (eqS 153) := by
  refine fok (env := envL [(106, (eqG [.i .i64, .i .i64, .l 185]))]) (N := 27) tabT (envL_cons ok106 envL_nil) mixed Tryz.func68 rfl Tryz.call68 Tryz.ntmps68 ?_
  rintro args ⟨a, b, rfl⟩ hwf
  have wa : WfD T (.l 153) (.l a) := arg0 hwf (List.mem_singleton_self _)
  have wb : WfD T (.l 153) (.l b) := arg1 hwf (List.mem_singleton_self _)
  clear hwf
  have la := wa.len
  refine ⟨by simp, ?_⟩
  rw [Tryz.results68]
  repeat' first
    | (refine And.intro ?_ ?_)
    | (intro h)
  all_goals first
    | (show lowEdges _ = true; kernel_rfl) | (show logOk _ _ = true; kernel_rfl) | trivial | exact Or.inr rfl | exact Or.inl rfl
    | exact res_no (ne_len ‹_›)
    | skip
  have hl := eq_len ‹_›
  refine awp_loop (Q := _) [0, 1, 5] [] (fun n s => ∃ i : Int, s = ([argS 153 a, argS 153 b, .val false [.i .i64 i]], []) ∧ 0 ≤ i ∧ i ≤ a.length ∧ n = a.length - i.toNat ∧ a.take i.toNat = b.take i.toNat) ?_ ?_
  · exact ⟨rfl, a.length - 0, _, rfl, by omega, by omega, rfl, rfl⟩
  rintro n s ⟨i, rfl, h1, h2, h3, h4⟩
  repeat' first
    | (refine And.intro ?_ ?_)
    | (intro h)
  all_goals first
    | (show lowEdges _ = true; kernel_rfl) | (show logOk _ _ = true; kernel_rfl) | trivial | exact Or.inr rfl | exact Or.inl rfl
    | omega
    | exact of_decide_eq_true ‹_›
    | exact hl ▸ of_decide_eq_true ‹decide (i < (a.length : Int)) = true›
    | exact ⟨_, _, rfl⟩
    | exact res_yes (eq_of_takes hl h1 h2 ‹_› h4)
    | (have hi : i < (a.length : Int) := of_decide_eq_true ‹_›
       have wra : WfRow T [.i .i64, .i .i64, .l 185] (a.getD i.toNat []) := wa.row rfl (by omega)
       have wrb : WfRow T [.i .i64, .i .i64, .l 185] (b.getD i.toNat []) := wb.row rfl (by omega)
       first
         | exact ⟨_, _, wra, wrb, rfl⟩
         | exact ⟨_, _, wra, wrb, Nat.lt_of_lt_of_le (size_row (by omega)) (Nat.le_of_lt_succ hs), rfl⟩
         | (refine res_no ?_; rintro rfl; simp_all [eqDs, eqD, str_inj]; done)
         | (refine ⟨a.length - (i + 1).toNat, by omega, i + 1, ?_, by omega, by omega, rfl, takes_next h1 hi hl h4 (row_eq wra wrb ?_)⟩
            · exact congrArg (fun z => ([argS 153 a, argS 153 b, .val false [.i .i64 z]], [])) (wrap_next h1 hi la)
            · simp_all [eqDs, eqD, str_inj, csD, CV.d, rowC, ofD, argG, sub, List.zipIdx, List.range, List.range.loop]))
    | rfl
/-- laws.eqEntry -/
theorem ok107 : FOk Tryz.prog T 107 (eqG [.i .i64, .i .i64, .i .i64, .l 3, .i .i64, .i .i64, .i .i64, .s, .l 103, .l 9, .l 189, .b]) := by
  refine fok (env := envL [(145, (eqS 3)), (146, (eqG [.i .i64, .i .i64, .i .i64, .s, .l 103, .l 9, .l 189]))]) (N := 37) tabT (envL_cons ok145 (envL_cons ok146 envL_nil)) mixed Tryz.func107 rfl Tryz.call107 Tryz.ntmps107 ?_
  rintro args ⟨a, b, wa, wb, rfl⟩ _
  refine ⟨by simp, ?_⟩
  rw [Tryz.results107]
  repeat' first
    | (refine And.intro ?_ ?_)
    | (intro h)
  all_goals first
    | (show lowEdges _ = true; kernel_rfl) | (show logOk _ _ = true; kernel_rfl) | trivial | exact Or.inr rfl | exact Or.inl rfl
    | exact ⟨_, _, rfl⟩
    | exact ⟨_, _, Nat.lt_of_lt_of_le (size_cell (by rw [wa.1]; decide)) (Nat.le_of_lt_succ hs), rfl⟩
    | exact ⟨sub a 0 1, sub b 0 1, wa.sub 0 1 (by decide), wb.sub 0 1 (by decide), rfl⟩ | exact ⟨sub a 1 1, sub b 1 1, wa.sub 1 1 (by decide), wb.sub 1 1 (by decide), rfl⟩ | exact ⟨sub a 2 1, sub b 2 1, wa.sub 2 1 (by decide), wb.sub 2 1 (by decide), rfl⟩ | exact ⟨sub a 3 1, sub b 3 1, wa.sub 3 1 (by decide), wb.sub 3 1 (by decide), rfl⟩ | exact ⟨sub a 4 7, sub b 4 7, wa.sub 4 7 (by decide), wb.sub 4 7 (by decide), rfl⟩ | exact ⟨sub a 11 1, sub b 11 1, wa.sub 11 1 (by decide), wb.sub 11 1 (by decide), rfl⟩
    | (exact res_no (fun he => by have e := row_eq wa wb he; subst e; simp_all))
    | (refine res_yes ?_; simp_all [eqDs, eqD, str_inj, csD, CV.d, rowC, ofD, argG, sub, List.zipIdx, List.range, List.range.loop]; done)
/-- laws.eqEntryS -/
theorem ok69 : FOk Tryz.prog T 69 (eqS 105) := by
  refine fok (env := envL [(107, (eqG [.i .i64, .i .i64, .i .i64, .l 3, .i .i64, .i .i64, .i .i64, .s, .l 103, .l 9, .l 189, .b]))]) (N := 27) tabT (envL_cons ok107 envL_nil) mixed Tryz.func69 rfl Tryz.call69 Tryz.ntmps69 ?_
  rintro args ⟨a, b, rfl⟩ hwf
  have wa : WfD T (.l 105) (.l a) := arg0 hwf (List.mem_singleton_self _)
  have wb : WfD T (.l 105) (.l b) := arg1 hwf (List.mem_singleton_self _)
  clear hwf
  have la := wa.len
  refine ⟨by simp, ?_⟩
  rw [Tryz.results69]
  repeat' first
    | (refine And.intro ?_ ?_)
    | (intro h)
  all_goals first
    | (show lowEdges _ = true; kernel_rfl) | (show logOk _ _ = true; kernel_rfl) | trivial | exact Or.inr rfl | exact Or.inl rfl
    | exact res_no (ne_len ‹_›)
    | skip
  have hl := eq_len ‹_›
  refine awp_loop (Q := _) [0, 1, 5] [] (fun n s => ∃ i : Int, s = ([argS 105 a, argS 105 b, .val false [.i .i64 i]], []) ∧ 0 ≤ i ∧ i ≤ a.length ∧ n = a.length - i.toNat ∧ a.take i.toNat = b.take i.toNat) ?_ ?_
  · exact ⟨rfl, a.length - 0, _, rfl, by omega, by omega, rfl, rfl⟩
  rintro n s ⟨i, rfl, h1, h2, h3, h4⟩
  repeat' first
    | (refine And.intro ?_ ?_)
    | (intro h)
  all_goals first
    | (show lowEdges _ = true; kernel_rfl) | (show logOk _ _ = true; kernel_rfl) | trivial | exact Or.inr rfl | exact Or.inl rfl
    | omega
    | exact of_decide_eq_true ‹_›
    | exact hl ▸ of_decide_eq_true ‹decide (i < (a.length : Int)) = true›
    | exact ⟨_, _, rfl⟩
    | exact res_yes (eq_of_takes hl h1 h2 ‹_› h4)
    | (have hi : i < (a.length : Int) := of_decide_eq_true ‹_›
       have wra : WfRow T [.i .i64, .i .i64, .i .i64, .l 3, .i .i64, .i .i64, .i .i64, .s, .l 103, .l 9, .l 189, .b] (a.getD i.toNat []) := wa.row rfl (by omega)
       have wrb : WfRow T [.i .i64, .i .i64, .i .i64, .l 3, .i .i64, .i .i64, .i .i64, .s, .l 103, .l 9, .l 189, .b] (b.getD i.toNat []) := wb.row rfl (by omega)
       first
         | exact ⟨_, _, wra, wrb, rfl⟩
         | exact ⟨_, _, wra, wrb, Nat.lt_of_lt_of_le (size_row (by omega)) (Nat.le_of_lt_succ hs), rfl⟩
         | (refine res_no ?_; rintro rfl; simp_all [eqDs, eqD, str_inj]; done)
         | (refine ⟨a.length - (i + 1).toNat, by omega, i + 1, ?_, by omega, by omega, rfl, takes_next h1 hi hl h4 (row_eq wra wrb ?_)⟩
            · exact congrArg (fun z => ([argS 105 a, argS 105 b, .val false [.i .i64 z]], [])) (wrap_next h1 hi la)
            · simp_all [eqDs, eqD, str_inj, csD, CV.d, rowC, ofD, argG, sub, List.zipIdx, List.range, List.range.loop]))
    | rfl
/-- laws.eqEngine -/
theorem ok27 : FOk Tryz.prog T 27 (eqG [.l 90, .i .i64, .i .i64, .l 116, .l 153, .l 105, .i .i64, .i .i64, .i .i64]) := by
  refine fok (env := envL [(66, (eqG [.l 90])), (67, (eqG [.i .i64, .i .i64, .l 116])), (68, (eqS 153)), (69, (eqS 105))]) (N := 44) tabT (envL_cons ok66 (envL_cons ok67 (envL_cons ok68 (envL_cons ok69 envL_nil)))) mixed Tryz.func27 rfl Tryz.call27 Tryz.ntmps27 ?_
  rintro args ⟨a, b, wa, wb, rfl⟩ _
  refine ⟨by simp, ?_⟩
  rw [Tryz.results27]
  repeat' first
    | (refine And.intro ?_ ?_)
    | (intro h)
  all_goals first
    | (show lowEdges _ = true; kernel_rfl) | (show logOk _ _ = true; kernel_rfl) | trivial | exact Or.inr rfl | exact Or.inl rfl
    | exact ⟨_, _, rfl⟩
    | exact ⟨_, _, Nat.lt_of_lt_of_le (size_cell (by rw [wa.1]; decide)) (Nat.le_of_lt_succ hs), rfl⟩
    | exact ⟨sub a 0 1, sub b 0 1, wa.sub 0 1 (by decide), wb.sub 0 1 (by decide), rfl⟩ | exact ⟨sub a 1 3, sub b 1 3, wa.sub 1 3 (by decide), wb.sub 1 3 (by decide), rfl⟩ | exact ⟨sub a 4 1, sub b 4 1, wa.sub 4 1 (by decide), wb.sub 4 1 (by decide), rfl⟩ | exact ⟨sub a 5 1, sub b 5 1, wa.sub 5 1 (by decide), wb.sub 5 1 (by decide), rfl⟩ | exact ⟨sub a 6 1, sub b 6 1, wa.sub 6 1 (by decide), wb.sub 6 1 (by decide), rfl⟩ | exact ⟨sub a 7 1, sub b 7 1, wa.sub 7 1 (by decide), wb.sub 7 1 (by decide), rfl⟩ | exact ⟨sub a 8 1, sub b 8 1, wa.sub 8 1 (by decide), wb.sub 8 1 (by decide), rfl⟩
    | (exact res_no (fun he => by have e := row_eq wa wb he; subst e; simp_all))
    | (refine res_yes ?_; simp_all [eqDs, eqD, str_inj, csD, CV.d, rowC, ofD, argG, sub, List.zipIdx, List.range, List.range.loop]; done)
/-- laws.eqEdit -/
theorem ok176 : FOk Tryz.prog T 176 (eqG [.i .i64, .i .i64, .i .i64, .i .i64, .i .i64, .s, .s, .i .i64]) := by
  refine fok (env := envL [(142, (eqG [.i .i64, .i .i64, .i .i64, .s, .s, .i .i64]))]) (N := 21) tabT (envL_cons ok142 envL_nil) mixed Tryz.func176 rfl Tryz.call176 Tryz.ntmps176 ?_
  rintro args ⟨a, b, wa, wb, rfl⟩ _
  refine ⟨by simp, ?_⟩
  rw [Tryz.results176]
  repeat' first
    | (refine And.intro ?_ ?_)
    | (intro h)
  all_goals first
    | (show lowEdges _ = true; kernel_rfl) | (show logOk _ _ = true; kernel_rfl) | trivial | exact Or.inr rfl | exact Or.inl rfl
    | exact ⟨_, _, rfl⟩
    | exact ⟨_, _, Nat.lt_of_lt_of_le (size_cell (by rw [wa.1]; decide)) (Nat.le_of_lt_succ hs), rfl⟩
    | exact ⟨sub a 0 1, sub b 0 1, wa.sub 0 1 (by decide), wb.sub 0 1 (by decide), rfl⟩ | exact ⟨sub a 1 1, sub b 1 1, wa.sub 1 1 (by decide), wb.sub 1 1 (by decide), rfl⟩ | exact ⟨sub a 2 6, sub b 2 6, wa.sub 2 6 (by decide), wb.sub 2 6 (by decide), rfl⟩
    | (exact res_no (fun he => by have e := row_eq wa wb he; subst e; simp_all))
    | (refine res_yes ?_; simp_all [eqDs, eqD, str_inj, csD, CV.d, rowC, ofD, argG, sub, List.zipIdx, List.range, List.range.loop]; done)
/-- laws.eqEditS -/
theorem ok147 : FOk Tryz.prog T 147 (eqS 118) := by
  refine fok (env := envL [(176, (eqG [.i .i64, .i .i64, .i .i64, .i .i64, .i .i64, .s, .s, .i .i64]))]) (N := 27) tabT (envL_cons ok176 envL_nil) mixed Tryz.func147 rfl Tryz.call147 Tryz.ntmps147 ?_
  rintro args ⟨a, b, rfl⟩ hwf
  have wa : WfD T (.l 118) (.l a) := arg0 hwf (List.mem_singleton_self _)
  have wb : WfD T (.l 118) (.l b) := arg1 hwf (List.mem_singleton_self _)
  clear hwf
  have la := wa.len
  refine ⟨by simp, ?_⟩
  rw [Tryz.results147]
  repeat' first
    | (refine And.intro ?_ ?_)
    | (intro h)
  all_goals first
    | (show lowEdges _ = true; kernel_rfl) | (show logOk _ _ = true; kernel_rfl) | trivial | exact Or.inr rfl | exact Or.inl rfl
    | exact res_no (ne_len ‹_›)
    | skip
  have hl := eq_len ‹_›
  refine awp_loop (Q := _) [0, 1, 5] [] (fun n s => ∃ i : Int, s = ([argS 118 a, argS 118 b, .val false [.i .i64 i]], []) ∧ 0 ≤ i ∧ i ≤ a.length ∧ n = a.length - i.toNat ∧ a.take i.toNat = b.take i.toNat) ?_ ?_
  · exact ⟨rfl, a.length - 0, _, rfl, by omega, by omega, rfl, rfl⟩
  rintro n s ⟨i, rfl, h1, h2, h3, h4⟩
  repeat' first
    | (refine And.intro ?_ ?_)
    | (intro h)
  all_goals first
    | (show lowEdges _ = true; kernel_rfl) | (show logOk _ _ = true; kernel_rfl) | trivial | exact Or.inr rfl | exact Or.inl rfl
    | omega
    | exact of_decide_eq_true ‹_›
    | exact hl ▸ of_decide_eq_true ‹decide (i < (a.length : Int)) = true›
    | exact ⟨_, _, rfl⟩
    | exact res_yes (eq_of_takes hl h1 h2 ‹_› h4)
    | (have hi : i < (a.length : Int) := of_decide_eq_true ‹_›
       have wra : WfRow T [.i .i64, .i .i64, .i .i64, .i .i64, .i .i64, .s, .s, .i .i64] (a.getD i.toNat []) := wa.row rfl (by omega)
       have wrb : WfRow T [.i .i64, .i .i64, .i .i64, .i .i64, .i .i64, .s, .s, .i .i64] (b.getD i.toNat []) := wb.row rfl (by omega)
       first
         | exact ⟨_, _, wra, wrb, rfl⟩
         | exact ⟨_, _, wra, wrb, Nat.lt_of_lt_of_le (size_row (by omega)) (Nat.le_of_lt_succ hs), rfl⟩
         | (refine res_no ?_; rintro rfl; simp_all [eqDs, eqD, str_inj]; done)
         | (refine ⟨a.length - (i + 1).toNat, by omega, i + 1, ?_, by omega, by omega, rfl, takes_next h1 hi hl h4 (row_eq wra wrb ?_)⟩
            · exact congrArg (fun z => ([argS 118 a, argS 118 b, .val false [.i .i64 z]], [])) (wrap_next h1 hi la)
            · simp_all [eqDs, eqD, str_inj, csD, CV.d, rowC, ofD, argG, sub, List.zipIdx, List.range, List.range.loop]))
    | rfl
/-- laws.eqNode -/
theorem ok108 : FOk Tryz.prog T 108 (eqG [.i .i64, .l 118, .l 118]) := by
  refine fok (env := envL [(147, (eqS 118))]) (N := 22) tabT (envL_cons ok147 envL_nil) mixed Tryz.func108 rfl Tryz.call108 Tryz.ntmps108 ?_
  rintro args ⟨a, b, wa, wb, rfl⟩ _
  refine ⟨by simp, ?_⟩
  rw [Tryz.results108]
  repeat' first
    | (refine And.intro ?_ ?_)
    | (intro h)
  all_goals first
    | (show lowEdges _ = true; kernel_rfl) | (show logOk _ _ = true; kernel_rfl) | trivial | exact Or.inr rfl | exact Or.inl rfl
    | exact ⟨_, _, rfl⟩
    | exact ⟨_, _, Nat.lt_of_lt_of_le (size_cell (by rw [wa.1]; decide)) (Nat.le_of_lt_succ hs), rfl⟩
    | exact ⟨sub a 0 1, sub b 0 1, wa.sub 0 1 (by decide), wb.sub 0 1 (by decide), rfl⟩ | exact ⟨sub a 1 1, sub b 1 1, wa.sub 1 1 (by decide), wb.sub 1 1 (by decide), rfl⟩ | exact ⟨sub a 2 1, sub b 2 1, wa.sub 2 1 (by decide), wb.sub 2 1 (by decide), rfl⟩
    | (exact res_no (fun he => by have e := row_eq wa wb he; subst e; simp_all))
    | (refine res_yes ?_; simp_all [eqDs, eqD, str_inj, csD, CV.d, rowC, ofD, argG, sub, List.zipIdx, List.range, List.range.loop]; done)
/-- laws.eqNodeS -/
theorem ok70 : FOk Tryz.prog T 70 (eqS 83) := by
  refine fok (env := envL [(108, (eqG [.i .i64, .l 118, .l 118]))]) (N := 27) tabT (envL_cons ok108 envL_nil) mixed Tryz.func70 rfl Tryz.call70 Tryz.ntmps70 ?_
  rintro args ⟨a, b, rfl⟩ hwf
  have wa : WfD T (.l 83) (.l a) := arg0 hwf (List.mem_singleton_self _)
  have wb : WfD T (.l 83) (.l b) := arg1 hwf (List.mem_singleton_self _)
  clear hwf
  have la := wa.len
  refine ⟨by simp, ?_⟩
  rw [Tryz.results70]
  repeat' first
    | (refine And.intro ?_ ?_)
    | (intro h)
  all_goals first
    | (show lowEdges _ = true; kernel_rfl) | (show logOk _ _ = true; kernel_rfl) | trivial | exact Or.inr rfl | exact Or.inl rfl
    | exact res_no (ne_len ‹_›)
    | skip
  have hl := eq_len ‹_›
  refine awp_loop (Q := _) [0, 1, 5] [] (fun n s => ∃ i : Int, s = ([argS 83 a, argS 83 b, .val false [.i .i64 i]], []) ∧ 0 ≤ i ∧ i ≤ a.length ∧ n = a.length - i.toNat ∧ a.take i.toNat = b.take i.toNat) ?_ ?_
  · exact ⟨rfl, a.length - 0, _, rfl, by omega, by omega, rfl, rfl⟩
  rintro n s ⟨i, rfl, h1, h2, h3, h4⟩
  repeat' first
    | (refine And.intro ?_ ?_)
    | (intro h)
  all_goals first
    | (show lowEdges _ = true; kernel_rfl) | (show logOk _ _ = true; kernel_rfl) | trivial | exact Or.inr rfl | exact Or.inl rfl
    | omega
    | exact of_decide_eq_true ‹_›
    | exact hl ▸ of_decide_eq_true ‹decide (i < (a.length : Int)) = true›
    | exact ⟨_, _, rfl⟩
    | exact res_yes (eq_of_takes hl h1 h2 ‹_› h4)
    | (have hi : i < (a.length : Int) := of_decide_eq_true ‹_›
       have wra : WfRow T [.i .i64, .l 118, .l 118] (a.getD i.toNat []) := wa.row rfl (by omega)
       have wrb : WfRow T [.i .i64, .l 118, .l 118] (b.getD i.toNat []) := wb.row rfl (by omega)
       first
         | exact ⟨_, _, wra, wrb, rfl⟩
         | exact ⟨_, _, wra, wrb, Nat.lt_of_lt_of_le (size_row (by omega)) (Nat.le_of_lt_succ hs), rfl⟩
         | (refine res_no ?_; rintro rfl; simp_all [eqDs, eqD, str_inj]; done)
         | (refine ⟨a.length - (i + 1).toNat, by omega, i + 1, ?_, by omega, by omega, rfl, takes_next h1 hi hl h4 (row_eq wra wrb ?_)⟩
            · exact congrArg (fun z => ([argS 83 a, argS 83 b, .val false [.i .i64 z]], [])) (wrap_next h1 hi la)
            · simp_all [eqDs, eqD, str_inj, csD, CV.d, rowC, ofD, argG, sub, List.zipIdx, List.range, List.range.loop]))
    | rfl
/-- laws.eqHistory -/
theorem ok28 : FOk Tryz.prog T 28 (eqG [.l 90, .l 83, .i .i64]) := by
  refine fok (env := envL [(66, (eqG [.l 90])), (70, (eqS 83))]) (N := 22) tabT (envL_cons ok66 (envL_cons ok70 envL_nil)) mixed Tryz.func28 rfl Tryz.call28 Tryz.ntmps28 ?_
  rintro args ⟨a, b, wa, wb, rfl⟩ _
  refine ⟨by simp, ?_⟩
  rw [Tryz.results28]
  repeat' first
    | (refine And.intro ?_ ?_)
    | (intro h)
  all_goals first
    | (show lowEdges _ = true; kernel_rfl) | (show logOk _ _ = true; kernel_rfl) | trivial | exact Or.inr rfl | exact Or.inl rfl
    | exact ⟨_, _, rfl⟩
    | exact ⟨_, _, Nat.lt_of_lt_of_le (size_cell (by rw [wa.1]; decide)) (Nat.le_of_lt_succ hs), rfl⟩
    | exact ⟨sub a 0 1, sub b 0 1, wa.sub 0 1 (by decide), wb.sub 0 1 (by decide), rfl⟩ | exact ⟨sub a 1 1, sub b 1 1, wa.sub 1 1 (by decide), wb.sub 1 1 (by decide), rfl⟩ | exact ⟨sub a 2 1, sub b 2 1, wa.sub 2 1 (by decide), wb.sub 2 1 (by decide), rfl⟩
    | (exact res_no (fun he => by have e := row_eq wa wb he; subst e; simp_all))
    | (refine res_yes ?_; simp_all [eqDs, eqD, str_inj, csD, CV.d, rowC, ofD, argG, sub, List.zipIdx, List.range, List.range.loop]; done)
/-- laws.eqSession -/
theorem ok9 : FOk Tryz.prog T 9 (eqG [.l 90, .i .i64, .i .i64, .l 116, .l 153, .l 105, .i .i64, .i .i64, .i .i64, .l 90, .l 83, .i .i64]) := by
  refine fok (env := envL [(27, (eqG [.l 90, .i .i64, .i .i64, .l 116, .l 153, .l 105, .i .i64, .i .i64, .i .i64])), (28, (eqG [.l 90, .l 83, .i .i64]))]) (N := 17) tabT (envL_cons ok27 (envL_cons ok28 envL_nil)) mixed Tryz.func9 rfl Tryz.call9 Tryz.ntmps9 ?_
  rintro args ⟨a, b, wa, wb, rfl⟩ _
  refine ⟨by simp, ?_⟩
  rw [Tryz.results9]
  repeat' first
    | (refine And.intro ?_ ?_)
    | (intro h)
  all_goals first
    | (show lowEdges _ = true; kernel_rfl) | (show logOk _ _ = true; kernel_rfl) | trivial | exact Or.inr rfl | exact Or.inl rfl
    | exact ⟨_, _, rfl⟩
    | exact ⟨_, _, Nat.lt_of_lt_of_le (size_cell (by rw [wa.1]; decide)) (Nat.le_of_lt_succ hs), rfl⟩
    | exact ⟨sub a 0 9, sub b 0 9, wa.sub 0 9 (by decide), wb.sub 0 9 (by decide), rfl⟩ | exact ⟨sub a 9 3, sub b 9 3, wa.sub 9 3 (by decide), wb.sub 9 3 (by decide), rfl⟩
    | (exact res_no (fun he => by have e := row_eq wa wb he; subst e; simp_all))
    | (refine res_yes ?_; simp_all [eqDs, eqD, str_inj, csD, CV.d, rowC, ofD, argG, sub, List.zipIdx, List.range, List.range.loop]; done)
end Go.Proofs.YtijnlnmoellbaaaGreat.Ab
