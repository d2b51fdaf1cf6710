/- Comparisons: printed by a program of this claim. -/
import Derived.Test.YtdmipmbeolglaaaGreatDoorEd
namespace Go.Proofs.YtdmipmbeolglaaaGreatDoor.Ab
open Go.RowKit
set_option linter.unusedVariables false
set_option linter.unusedSimpArgs false
set_option maxRecDepth 100000
set_option maxHeartbeats 1000000
/-- laws.eqIntS -/
theorem ok42 : FOk Tryz.prog T 42 (eqS 3) := by
  refine fok (env := envL []) (N := 26) tabT envL_nil mixed Tryz.func42 rfl Tryz.call42 Tryz.ntmps42 ?_
  rintro args ⟨a, b, rfl⟩ hwf
  have wa : WfD T (.l 3) (.l a) := arg0 hwf (List.mem_singleton_self _)
  have wb : WfD T (.l 3) (.l b) := arg1 hwf (List.mem_singleton_self _)
  clear hwf
  have la := wa.len
  refine ⟨by simp, ?_⟩
  rw [Tryz.results42]
  repeat' first
    | (refine And.intro ?_ ?_)
    | (intro h)
  all_goals first
    | (show lowEdges _ = true; kernel_rfl) | (show logOk _ _ = true; kernel_rfl) | exact True.intro | exact rfl | exact Or.inr rfl | exact Or.inl rfl
    | exact res_no (ne_len ‹_›)
    | skip
  have hl := eq_len ‹_›
  refine awp_loop (Q := _) [0, 1, 5] [] (fun n s => ∃ i : Int, s = ([argS 3 a, argS 3 b, .val false [.i .i64 i]], []) ∧ 0 ≤ i ∧ i ≤ a.length ∧ n = a.length - i.toNat ∧ a.take i.toNat = b.take i.toNat) ?_ ?_
  · exact ⟨rfl, a.length - 0, _, rfl, by omega, by omega, rfl, rfl⟩
  rintro n s ⟨i, rfl, h1, h2, h3, h4⟩
  repeat' first
    | (refine And.intro ?_ ?_)
    | (intro h)
  all_goals first
    | (show lowEdges _ = true; kernel_rfl) | (show logOk _ _ = true; kernel_rfl) | exact True.intro | exact rfl | exact Or.inr rfl | exact Or.inl rfl
    | omega
    | exact of_decide_eq_true ‹_›
    | exact hl ▸ of_decide_eq_true ‹decide (i < (a.length : Int)) = true›
    | exact ⟨_, _, rfl⟩
    | exact res_yes (eq_of_takes hl h1 h2 ‹_› h4)
    | (have hi : i < (a.length : Int) := of_decide_eq_true ‹_›
       have wra : WfRow T [.i .i64] (a.getD i.toNat []) := wa.row rfl (by omega)
       have wrb : WfRow T [.i .i64] (b.getD i.toNat []) := wb.row rfl (by omega)
       first
         | exact ⟨_, _, wra, wrb, rfl⟩
         | exact ⟨_, _, wra, wrb, Nat.lt_of_lt_of_le (size_row (by omega)) (Nat.le_of_lt_succ hs), rfl⟩
         | (refine res_no ?_; rintro rfl; simp_all [eqDs, eqD, str_inj]; done)
         | (refine ⟨a.length - (i + 1).toNat, by omega, i + 1, ?_, by omega, by omega, rfl, takes_next h1 hi hl h4 (row_eq wra wrb ?_)⟩
            · exact congrArg (fun z => ([argS 3 a, argS 3 b, .val false [.i .i64 z]], [])) (wrap_next h1 hi la)
            · simp_all [eqDs, eqD, str_inj, csD, CV.d, rowC, ofD, argG, sub, List.zipIdx, List.range, List.range.loop]))
    | rfl
/-- laws.eqCell -/
theorem ok72 : FOk Tryz.prog T 72 (eqG [.i .i64, .i .i64, .i .i64, .s, .s, .i .i64]) := by
  refine fok (env := envL []) (N := 35) tabT envL_nil mixed Tryz.func72 rfl Tryz.call72 Tryz.ntmps72 ?_
  rintro args ⟨a, b, wa, wb, rfl⟩ _
  refine ⟨by simp, ?_⟩
  rw [Tryz.results72]
  repeat' first
    | (refine And.intro ?_ ?_)
    | (intro h)
  all_goals first
    | (show lowEdges _ = true; kernel_rfl) | (show logOk _ _ = true; kernel_rfl) | exact True.intro | exact rfl | exact Or.inr rfl | exact Or.inl rfl
    | exact ⟨_, _, rfl⟩
    | exact ⟨_, _, Nat.lt_of_lt_of_le (size_cell (by rw [wa.1]; decide)) (Nat.le_of_lt_succ hs), rfl⟩
    | exact ⟨sub a 0 1, sub b 0 1, wa.sub 0 1 (by decide), wb.sub 0 1 (by decide), rfl⟩ | exact ⟨sub a 1 1, sub b 1 1, wa.sub 1 1 (by decide), wb.sub 1 1 (by decide), rfl⟩ | exact ⟨sub a 2 1, sub b 2 1, wa.sub 2 1 (by decide), wb.sub 2 1 (by decide), rfl⟩ | exact ⟨sub a 3 1, sub b 3 1, wa.sub 3 1 (by decide), wb.sub 3 1 (by decide), rfl⟩ | exact ⟨sub a 4 1, sub b 4 1, wa.sub 4 1 (by decide), wb.sub 4 1 (by decide), rfl⟩ | exact ⟨sub a 5 1, sub b 5 1, wa.sub 5 1 (by decide), wb.sub 5 1 (by decide), rfl⟩
    | (exact res_no (fun he => by have e := row_eq wa wb he; subst e; simp_all))
    | (refine res_yes ?_; simp_all [eqDs, eqD, str_inj, csD, CV.d, rowC, ofD, argG, sub, List.zipIdx, List.range, List.range.loop]; done)
/-- laws.eqEdit -/
theorem ok43 : FOk Tryz.prog T 43 (eqG [.i .i64, .i .i64, .i .i64, .i .i64, .i .i64, .s, .s, .i .i64]) := by
  refine fok (env := envL [(72, (eqG [.i .i64, .i .i64, .i .i64, .s, .s, .i .i64]))]) (N := 21) tabT (envL_cons ok72 envL_nil) mixed Tryz.func43 rfl Tryz.call43 Tryz.ntmps43 ?_
  rintro args ⟨a, b, wa, wb, rfl⟩ _
  refine ⟨by simp, ?_⟩
  rw [Tryz.results43]
  repeat' first
    | (refine And.intro ?_ ?_)
    | (intro h)
  all_goals first
    | (show lowEdges _ = true; kernel_rfl) | (show logOk _ _ = true; kernel_rfl) | exact True.intro | exact rfl | exact Or.inr rfl | exact Or.inl rfl
    | exact ⟨_, _, rfl⟩
    | exact ⟨_, _, Nat.lt_of_lt_of_le (size_cell (by rw [wa.1]; decide)) (Nat.le_of_lt_succ hs), rfl⟩
    | exact ⟨sub a 0 1, sub b 0 1, wa.sub 0 1 (by decide), wb.sub 0 1 (by decide), rfl⟩ | exact ⟨sub a 1 1, sub b 1 1, wa.sub 1 1 (by decide), wb.sub 1 1 (by decide), rfl⟩ | exact ⟨sub a 2 6, sub b 2 6, wa.sub 2 6 (by decide), wb.sub 2 6 (by decide), rfl⟩
    | (exact res_no (fun he => by have e := row_eq wa wb he; subst e; simp_all))
    | (refine res_yes ?_; simp_all [eqDs, eqD, str_inj, csD, CV.d, rowC, ofD, argG, sub, List.zipIdx, List.range, List.range.loop]; done)
/-- laws.eqStringS -/
theorem ok110 : FOk Tryz.prog T 110 (eqS 9) := by
  refine fok (env := envL []) (N := 26) tabT envL_nil mixed Tryz.func110 rfl Tryz.call110 Tryz.ntmps110 ?_
  rintro args ⟨a, b, rfl⟩ hwf
  have wa : WfD T (.l 9) (.l a) := arg0 hwf (List.mem_singleton_self _)
  have wb : WfD T (.l 9) (.l b) := arg1 hwf (List.mem_singleton_self _)
  clear hwf
  have la := wa.len
  refine ⟨by simp, ?_⟩
  rw [Tryz.results110]
  repeat' first
    | (refine And.intro ?_ ?_)
    | (intro h)
  all_goals first
    | (show lowEdges _ = true; kernel_rfl) | (show logOk _ _ = true; kernel_rfl) | exact True.intro | exact rfl | exact Or.inr rfl | exact Or.inl rfl
    | exact res_no (ne_len ‹_›)
    | skip
  have hl := eq_len ‹_›
  refine awp_loop (Q := _) [0, 1, 5] [] (fun n s => ∃ i : Int, s = ([argS 9 a, argS 9 b, .val false [.i .i64 i]], []) ∧ 0 ≤ i ∧ i ≤ a.length ∧ n = a.length - i.toNat ∧ a.take i.toNat = b.take i.toNat) ?_ ?_
  · exact ⟨rfl, a.length - 0, _, rfl, by omega, by omega, rfl, rfl⟩
  rintro n s ⟨i, rfl, h1, h2, h3, h4⟩
  repeat' first
    | (refine And.intro ?_ ?_)
    | (intro h)
  all_goals first
    | (show lowEdges _ = true; kernel_rfl) | (show logOk _ _ = true; kernel_rfl) | exact True.intro | exact rfl | exact Or.inr rfl | exact Or.inl rfl
    | omega
    | exact of_decide_eq_true ‹_›
    | exact hl ▸ of_decide_eq_true ‹decide (i < (a.length : Int)) = true›
    | exact ⟨_, _, rfl⟩
    | exact res_yes (eq_of_takes hl h1 h2 ‹_› h4)
    | (have hi : i < (a.length : Int) := of_decide_eq_true ‹_›
       have wra : WfRow T [.s] (a.getD i.toNat []) := wa.row rfl (by omega)
       have wrb : WfRow T [.s] (b.getD i.toNat []) := wb.row rfl (by omega)
       first
         | exact ⟨_, _, wra, wrb, rfl⟩
         | exact ⟨_, _, wra, wrb, Nat.lt_of_lt_of_le (size_row (by omega)) (Nat.le_of_lt_succ hs), rfl⟩
         | (refine res_no ?_; rintro rfl; simp_all [eqDs, eqD, str_inj]; done)
         | (refine ⟨a.length - (i + 1).toNat, by omega, i + 1, ?_, by omega, by omega, rfl, takes_next h1 hi hl h4 (row_eq wra wrb ?_)⟩
            · exact congrArg (fun z => ([argS 9 a, argS 9 b, .val false [.i .i64 z]], [])) (wrap_next h1 hi la)
            · simp_all [eqDs, eqD, str_inj, csD, CV.d, rowC, ofD, argG, sub, List.zipIdx, List.range, List.range.loop]))
    | rfl
/-- laws.eqOrigin -/
theorem ok143 : FOk Tryz.prog T 143 (eqG [.i .i64, .i .i64]) := by
  refine fok (env := envL []) (N := 15) tabT envL_nil mixed Tryz.func143 rfl Tryz.call143 Tryz.ntmps143 ?_
  rintro args ⟨a, b, wa, wb, rfl⟩ _
  refine ⟨by simp, ?_⟩
  rw [Tryz.results143]
  repeat' first
    | (refine And.intro ?_ ?_)
    | (intro h)
  all_goals first
    | (show lowEdges _ = true; kernel_rfl) | (show logOk _ _ = true; kernel_rfl) | exact True.intro | exact rfl | exact Or.inr rfl | exact Or.inl rfl
    | exact ⟨_, _, rfl⟩
    | exact ⟨_, _, Nat.lt_of_lt_of_le (size_cell (by rw [wa.1]; decide)) (Nat.le_of_lt_succ hs), rfl⟩
    | exact ⟨sub a 0 1, sub b 0 1, wa.sub 0 1 (by decide), wb.sub 0 1 (by decide), rfl⟩ | exact ⟨sub a 1 1, sub b 1 1, wa.sub 1 1 (by decide), wb.sub 1 1 (by decide), rfl⟩
    | (exact res_no (fun he => by have e := row_eq wa wb he; subst e; simp_all))
    | (refine res_yes ?_; simp_all [eqDs, eqD, str_inj, csD, CV.d, rowC, ofD, argG, sub, List.zipIdx, List.range, List.range.loop]; done)
/-- laws.eqOriginS -/
theorem ok135 : FOk Tryz.prog T 135 (eqS 125) := by
  refine fok (env := envL [(143, (eqG [.i .i64, .i .i64]))]) (N := 27) tabT (envL_cons ok143 envL_nil) mixed Tryz.func135 rfl Tryz.call135 Tryz.ntmps135 ?_
  rintro args ⟨a, b, rfl⟩ hwf
  have wa : WfD T (.l 125) (.l a) := arg0 hwf (List.mem_singleton_self _)
  have wb : WfD T (.l 125) (.l b) := arg1 hwf (List.mem_singleton_self _)
  clear hwf
  have la := wa.len
  refine ⟨by simp, ?_⟩
  rw [Tryz.results135]
  repeat' first
    | (refine And.intro ?_ ?_)
    | (intro h)
  all_goals first
    | (show lowEdges _ = true; kernel_rfl) | (show logOk _ _ = true; kernel_rfl) | exact True.intro | exact rfl | exact Or.inr rfl | exact Or.inl rfl
    | exact res_no (ne_len ‹_›)
    | skip
  have hl := eq_len ‹_›
  refine awp_loop (Q := _) [0, 1, 5] [] (fun n s => ∃ i : Int, s = ([argS 125 a, argS 125 b, .val false [.i .i64 i]], []) ∧ 0 ≤ i ∧ i ≤ a.length ∧ n = a.length - i.toNat ∧ a.take i.toNat = b.take i.toNat) ?_ ?_
  · exact ⟨rfl, a.length - 0, _, rfl, by omega, by omega, rfl, rfl⟩
  rintro n s ⟨i, rfl, h1, h2, h3, h4⟩
  repeat' first
    | (refine And.intro ?_ ?_)
    | (intro h)
  all_goals first
    | (show lowEdges _ = true; kernel_rfl) | (show logOk _ _ = true; kernel_rfl) | exact True.intro | exact rfl | exact Or.inr rfl | exact Or.inl rfl
    | omega
    | exact of_decide_eq_true ‹_›
    | exact hl ▸ of_decide_eq_true ‹decide (i < (a.length : Int)) = true›
    | exact ⟨_, _, rfl⟩
    | exact res_yes (eq_of_takes hl h1 h2 ‹_› h4)
    | (have hi : i < (a.length : Int) := of_decide_eq_true ‹_›
       have wra : WfRow T [.i .i64, .i .i64] (a.getD i.toNat []) := wa.row rfl (by omega)
       have wrb : WfRow T [.i .i64, .i .i64] (b.getD i.toNat []) := wb.row rfl (by omega)
       first
         | exact ⟨_, _, wra, wrb, rfl⟩
         | exact ⟨_, _, wra, wrb, Nat.lt_of_lt_of_le (size_row (by omega)) (Nat.le_of_lt_succ hs), rfl⟩
         | (refine res_no ?_; rintro rfl; simp_all [eqDs, eqD, str_inj]; done)
         | (refine ⟨a.length - (i + 1).toNat, by omega, i + 1, ?_, by omega, by omega, rfl, takes_next h1 hi hl h4 (row_eq wra wrb ?_)⟩
            · exact congrArg (fun z => ([argS 125 a, argS 125 b, .val false [.i .i64 z]], [])) (wrap_next h1 hi la)
            · simp_all [eqDs, eqD, str_inj, csD, CV.d, rowC, ofD, argG, sub, List.zipIdx, List.range, List.range.loop]))
    | rfl
/-- laws.eqRow -/
theorem ok124 : FOk Tryz.prog T 124 (eqG [.l 3, .l 125]) := by
  refine fok (env := envL [(42, (eqS 3)), (135, (eqS 125))]) (N := 17) tabT (envL_cons ok42 (envL_cons ok135 envL_nil)) mixed Tryz.func124 rfl Tryz.call124 Tryz.ntmps124 ?_
  rintro args ⟨a, b, wa, wb, rfl⟩ _
  refine ⟨by simp, ?_⟩
  rw [Tryz.results124]
  repeat' first
    | (refine And.intro ?_ ?_)
    | (intro h)
  all_goals first
    | (show lowEdges _ = true; kernel_rfl) | (show logOk _ _ = true; kernel_rfl) | exact True.intro | exact rfl | exact Or.inr rfl | exact Or.inl rfl
    | exact ⟨_, _, rfl⟩
    | exact ⟨_, _, Nat.lt_of_lt_of_le (size_cell (by rw [wa.1]; decide)) (Nat.le_of_lt_succ hs), rfl⟩
    | exact ⟨sub a 0 1, sub b 0 1, wa.sub 0 1 (by decide), wb.sub 0 1 (by decide), rfl⟩ | exact ⟨sub a 1 1, sub b 1 1, wa.sub 1 1 (by decide), wb.sub 1 1 (by decide), rfl⟩
    | (exact res_no (fun he => by have e := row_eq wa wb he; subst e; simp_all))
    | (refine res_yes ?_; simp_all [eqDs, eqD, str_inj, csD, CV.d, rowC, ofD, argG, sub, List.zipIdx, List.range, List.range.loop]; done)
/-- laws.eqRowS -/
theorem ok111 : FOk Tryz.prog T 111 (eqS 112) := by
  refine fok (env := envL [(124, (eqG [.l 3, .l 125]))]) (N := 27) tabT (envL_cons ok124 envL_nil) mixed Tryz.func111 rfl Tryz.call111 Tryz.ntmps111 ?_
  rintro args ⟨a, b, rfl⟩ hwf
  have wa : WfD T (.l 112) (.l a) := arg0 hwf (List.mem_singleton_self _)
  have wb : WfD T (.l 112) (.l b) := arg1 hwf (List.mem_singleton_self _)
  clear hwf
  have la := wa.len
  refine ⟨by simp, ?_⟩
  rw [Tryz.results111]
  repeat' first
    | (refine And.intro ?_ ?_)
    | (intro h)
  all_goals first
    | (show lowEdges _ = true; kernel_rfl) | (show logOk _ _ = true; kernel_rfl) | exact True.intro | exact rfl | exact Or.inr rfl | exact Or.inl rfl
    | exact res_no (ne_len ‹_›)
    | skip
  have hl := eq_len ‹_›
  refine awp_loop (Q := _) [0, 1, 5] [] (fun n s => ∃ i : Int, s = ([argS 112 a, argS 112 b, .val false [.i .i64 i]], []) ∧ 0 ≤ i ∧ i ≤ a.length ∧ n = a.length - i.toNat ∧ a.take i.toNat = b.take i.toNat) ?_ ?_
  · exact ⟨rfl, a.length - 0, _, rfl, by omega, by omega, rfl, rfl⟩
  rintro n s ⟨i, rfl, h1, h2, h3, h4⟩
  repeat' first
    | (refine And.intro ?_ ?_)
    | (intro h)
  all_goals first
    | (show lowEdges _ = true; kernel_rfl) | (show logOk _ _ = true; kernel_rfl) | exact True.intro | exact rfl | exact Or.inr rfl | exact Or.inl rfl
    | omega
    | exact of_decide_eq_true ‹_›
    | exact hl ▸ of_decide_eq_true ‹decide (i < (a.length : Int)) = true›
    | exact ⟨_, _, rfl⟩
    | exact res_yes (eq_of_takes hl h1 h2 ‹_› h4)
    | (have hi : i < (a.length : Int) := of_decide_eq_true ‹_›
       have wra : WfRow T [.l 3, .l 125] (a.getD i.toNat []) := wa.row rfl (by omega)
       have wrb : WfRow T [.l 3, .l 125] (b.getD i.toNat []) := wb.row rfl (by omega)
       first
         | exact ⟨_, _, wra, wrb, rfl⟩
         | exact ⟨_, _, wra, wrb, Nat.lt_of_lt_of_le (size_row (by omega)) (Nat.le_of_lt_succ hs), rfl⟩
         | (refine res_no ?_; rintro rfl; simp_all [eqDs, eqD, str_inj]; done)
         | (refine ⟨a.length - (i + 1).toNat, by omega, i + 1, ?_, by omega, by omega, rfl, takes_next h1 hi hl h4 (row_eq wra wrb ?_)⟩
            · exact congrArg (fun z => ([argS 112 a, argS 112 b, .val false [.i .i64 z]], [])) (wrap_next h1 hi la)
            · simp_all [eqDs, eqD, str_inj, csD, CV.d, rowC, ofD, argG, sub, List.zipIdx, List.range, List.range.loop]))
    | rfl
/-- laws.eqValue -/
theorem step90 (n : Nat) (hn : FOk Tryz.prog T 109 (eqSn 72 n)) : FOk Tryz.prog T 90 (eqGn [.i .i64, .i .i64, .i .i64, .s, .l 72, .l 9, .l 112] (n + 1)) := by
  refine fok (env := envL [(109, (eqSn 72 n)), (110, (eqS 9)), (111, (eqS 112))]) (N := 43) tabT (envL_cons hn (envL_cons ok110 (envL_cons ok111 envL_nil))) mixed Tryz.func90 rfl Tryz.call90 Tryz.ntmps90 ?_
  rintro args ⟨a, b, wa, wb, hs, rfl⟩ _
  refine ⟨by simp, ?_⟩
  rw [Tryz.results90]
  repeat' first
    | (refine And.intro ?_ ?_)
    | (intro h)
  all_goals first
    | (show lowEdges _ = true; kernel_rfl) | (show logOk _ _ = true; kernel_rfl) | exact True.intro | exact rfl | exact Or.inr rfl | exact Or.inl rfl
    | exact ⟨_, _, rfl⟩
    | exact ⟨_, _, Nat.lt_of_lt_of_le (size_cell (by rw [wa.1]; decide)) (Nat.le_of_lt_succ hs), rfl⟩
    | exact ⟨sub a 0 1, sub b 0 1, wa.sub 0 1 (by decide), wb.sub 0 1 (by decide), rfl⟩ | exact ⟨sub a 1 1, sub b 1 1, wa.sub 1 1 (by decide), wb.sub 1 1 (by decide), rfl⟩ | exact ⟨sub a 2 1, sub b 2 1, wa.sub 2 1 (by decide), wb.sub 2 1 (by decide), rfl⟩ | exact ⟨sub a 3 1, sub b 3 1, wa.sub 3 1 (by decide), wb.sub 3 1 (by decide), rfl⟩ | exact ⟨sub a 4 1, sub b 4 1, wa.sub 4 1 (by decide), wb.sub 4 1 (by decide), rfl⟩ | exact ⟨sub a 5 1, sub b 5 1, wa.sub 5 1 (by decide), wb.sub 5 1 (by decide), rfl⟩ | exact ⟨sub a 6 1, sub b 6 1, wa.sub 6 1 (by decide), wb.sub 6 1 (by decide), rfl⟩
    | (exact res_no (fun he => by have e := row_eq wa wb he; subst e; simp_all))
    | (refine res_yes ?_; simp_all [eqDs, eqD, str_inj, csD, CV.d, rowC, ofD, argG, sub, List.zipIdx, List.range, List.range.loop]; done)
/-- laws.eqValueS -/
theorem step109 (n : Nat) (hn : FOk Tryz.prog T 90 (eqGn [.i .i64, .i .i64, .i .i64, .s, .l 72, .l 9, .l 112] n)) : FOk Tryz.prog T 109 (eqSn 72 (n + 1)) := by
  refine fok (env := envL [(90, (eqGn [.i .i64, .i .i64, .i .i64, .s, .l 72, .l 9, .l 112] n))]) (N := 27) tabT (envL_cons hn envL_nil) mixed Tryz.func109 rfl Tryz.call109 Tryz.ntmps109 ?_
  rintro args ⟨a, b, hs, rfl⟩ hwf
  have wa : WfD T (.l 72) (.l a) := arg0 hwf (List.mem_singleton_self _)
  have wb : WfD T (.l 72) (.l b) := arg1 hwf (List.mem_singleton_self _)
  clear hwf
  have la := wa.len
  refine ⟨by simp, ?_⟩
  rw [Tryz.results109]
  repeat' first
    | (refine And.intro ?_ ?_)
    | (intro h)
  all_goals first
    | (show lowEdges _ = true; kernel_rfl) | (show logOk _ _ = true; kernel_rfl) | exact True.intro | exact rfl | exact Or.inr rfl | exact Or.inl rfl
    | exact res_no (ne_len ‹_›)
    | skip
  have hl := eq_len ‹_›
  refine awp_loop (Q := _) [0, 1, 5] [] (fun n s => ∃ i : Int, s = ([argS 72 a, argS 72 b, .val false [.i .i64 i]], []) ∧ 0 ≤ i ∧ i ≤ a.length ∧ n = a.length - i.toNat ∧ a.take i.toNat = b.take i.toNat) ?_ ?_
  · exact ⟨rfl, a.length - 0, _, rfl, by omega, by omega, rfl, rfl⟩
  rintro n s ⟨i, rfl, h1, h2, h3, h4⟩
  repeat' first
    | (refine And.intro ?_ ?_)
    | (intro h)
  all_goals first
    | (show lowEdges _ = true; kernel_rfl) | (show logOk _ _ = true; kernel_rfl) | exact True.intro | exact rfl | exact Or.inr rfl | exact Or.inl rfl
    | omega
    | exact of_decide_eq_true ‹_›
    | exact hl ▸ of_decide_eq_true ‹decide (i < (a.length : Int)) = true›
    | exact ⟨_, _, rfl⟩
    | exact res_yes (eq_of_takes hl h1 h2 ‹_› h4)
    | (have hi : i < (a.length : Int) := of_decide_eq_true ‹_›
       have wra : WfRow T [.i .i64, .i .i64, .i .i64, .s, .l 72, .l 9, .l 112] (a.getD i.toNat []) := wa.row rfl (by omega)
       have wrb : WfRow T [.i .i64, .i .i64, .i .i64, .s, .l 72, .l 9, .l 112] (b.getD i.toNat []) := wb.row rfl (by omega)
       first
         | exact ⟨_, _, wra, wrb, rfl⟩
         | exact ⟨_, _, wra, wrb, Nat.lt_of_lt_of_le (size_row (by omega)) (Nat.le_of_lt_succ hs), rfl⟩
         | (refine res_no ?_; rintro rfl; simp_all [eqDs, eqD, str_inj]; done)
         | (refine ⟨a.length - (i + 1).toNat, by omega, i + 1, ?_, by omega, by omega, rfl, takes_next h1 hi hl h4 (row_eq wra wrb ?_)⟩
            · exact congrArg (fun z => ([argS 72 a, argS 72 b, .val false [.i .i64 z]], [])) (wrap_next h1 hi la)
            · simp_all [eqDs, eqD, str_inj, csD, CV.d, rowC, ofD, argG, sub, List.zipIdx, List.range, List.range.loop]))
    | rfl
theorem zero90 : FOk Tryz.prog T 90 (eqGn [.i .i64, .i .i64, .i .i64, .s, .l 72, .l 9, .l 112] 0) := by
  refine fok (env := envL []) (N := 43) tabT envL_nil mixed Tryz.func90 rfl Tryz.call90 Tryz.ntmps90 ?_
  rintro args ⟨a, b, wa, wb, hs, rfl⟩ _
  exact absurd hs (Nat.not_lt_zero _)
theorem zero109 : FOk Tryz.prog T 109 (eqSn 72 0) := by
  refine fok (env := envL []) (N := 27) tabT envL_nil mixed Tryz.func109 rfl Tryz.call109 Tryz.ntmps109 ?_
  rintro args ⟨a, b, hs, rfl⟩ _
  exact absurd hs (Nat.not_lt_zero _)
theorem both90 (n : Nat) : FOk Tryz.prog T 90 (eqGn [.i .i64, .i .i64, .i .i64, .s, .l 72, .l 9, .l 112] n) ∧ FOk Tryz.prog T 109 (eqSn 72 n) := by
  induction n with
  | zero => exact ⟨zero90, zero109⟩
  | succ n ih => exact ⟨step90 n ih.2, step109 n ih.1⟩
theorem ok90 : FOk Tryz.prog T 90 (eqG [.i .i64, .i .i64, .i .i64, .s, .l 72, .l 9, .l 112]) := FOk.lift (s := fun n => (eqGn [.i .i64, .i .i64, .i .i64, .s, .l 72, .l 9, .l 112] n)) (fun n => (both90 n).1) (fun args ⟨a, b, wa, wb, h⟩ => ⟨SizeOf.sizeOf a + 1, a, b, wa, wb, Nat.lt_succ_self _, h⟩) (fun n => rfl)
theorem ok109 : FOk Tryz.prog T 109 (eqS 72) := FOk.lift (s := fun n => (eqSn 72 n)) (fun n => (both90 n).2) (fun args ⟨a, b, h⟩ => ⟨SizeOf.sizeOf a + 1, a, b, Nat.lt_succ_self _, h⟩) (fun n => rfl)
/-- laws.eqRead -/
theorem ok73 : FOk Tryz.prog T 73 (eqG [.i .i64, .i .i64, .i .i64, .s, .i .i64, .i .i64, .i .i64, .s, .l 72, .l 9, .l 112]) := by
  refine fok (env := envL [(90, (eqG [.i .i64, .i .i64, .i .i64, .s, .l 72, .l 9, .l 112]))]) (N := 31) tabT (envL_cons ok90 envL_nil) mixed Tryz.func73 rfl Tryz.call73 Tryz.ntmps73 ?_
  rintro args ⟨a, b, wa, wb, rfl⟩ _
  refine ⟨by simp, ?_⟩
  rw [Tryz.results73]
  repeat' first
    | (refine And.intro ?_ ?_)
    | (intro h)
  all_goals first
    | (show lowEdges _ = true; kernel_rfl) | (show logOk _ _ = true; kernel_rfl) | exact True.intro | exact rfl | exact Or.inr rfl | exact Or.inl rfl
    | exact ⟨_, _, rfl⟩
    | exact ⟨_, _, Nat.lt_of_lt_of_le (size_cell (by rw [wa.1]; decide)) (Nat.le_of_lt_succ hs), rfl⟩
    | exact ⟨sub a 0 1, sub b 0 1, wa.sub 0 1 (by decide), wb.sub 0 1 (by decide), rfl⟩ | exact ⟨sub a 1 1, sub b 1 1, wa.sub 1 1 (by decide), wb.sub 1 1 (by decide), rfl⟩ | exact ⟨sub a 2 1, sub b 2 1, wa.sub 2 1 (by decide), wb.sub 2 1 (by decide), rfl⟩ | exact ⟨sub a 3 1, sub b 3 1, wa.sub 3 1 (by decide), wb.sub 3 1 (by decide), rfl⟩ | exact ⟨sub a 4 7, sub b 4 7, wa.sub 4 7 (by decide), wb.sub 4 7 (by decide), rfl⟩
    | (exact res_no (fun he => by have e := row_eq wa wb he; subst e; simp_all))
    | (refine res_yes ?_; simp_all [eqDs, eqD, str_inj, csD, CV.d, rowC, ofD, argG, sub, List.zipIdx, List.range, List.range.loop]; done)
/-- laws.eqReadS -/
theorem ok44 : FOk Tryz.prog T 44 (eqS 74) := by
  refine fok (env := envL [(73, (eqG [.i .i64, .i .i64, .i .i64, .s, .i .i64, .i .i64, .i .i64, .s, .l 72, .l 9, .l 112]))]) (N := 27) tabT (envL_cons ok73 envL_nil) mixed Tryz.func44 rfl Tryz.call44 Tryz.ntmps44 ?_
  rintro args ⟨a, b, rfl⟩ hwf
  have wa : WfD T (.l 74) (.l a) := arg0 hwf (List.mem_singleton_self _)
  have wb : WfD T (.l 74) (.l b) := arg1 hwf (List.mem_singleton_self _)
  clear hwf
  have la := wa.len
  refine ⟨by simp, ?_⟩
  rw [Tryz.results44]
  repeat' first
    | (refine And.intro ?_ ?_)
    | (intro h)
  all_goals first
    | (show lowEdges _ = true; kernel_rfl) | (show logOk _ _ = true; kernel_rfl) | exact True.intro | exact rfl | exact Or.inr rfl | exact Or.inl rfl
    | exact res_no (ne_len ‹_›)
    | skip
  have hl := eq_len ‹_›
  refine awp_loop (Q := _) [0, 1, 5] [] (fun n s => ∃ i : Int, s = ([argS 74 a, argS 74 b, .val false [.i .i64 i]], []) ∧ 0 ≤ i ∧ i ≤ a.length ∧ n = a.length - i.toNat ∧ a.take i.toNat = b.take i.toNat) ?_ ?_
  · exact ⟨rfl, a.length - 0, _, rfl, by omega, by omega, rfl, rfl⟩
  rintro n s ⟨i, rfl, h1, h2, h3, h4⟩
  repeat' first
    | (refine And.intro ?_ ?_)
    | (intro h)
  all_goals first
    | (show lowEdges _ = true; kernel_rfl) | (show logOk _ _ = true; kernel_rfl) | exact True.intro | exact rfl | exact Or.inr rfl | exact Or.inl rfl
    | omega
    | exact of_decide_eq_true ‹_›
    | exact hl ▸ of_decide_eq_true ‹decide (i < (a.length : Int)) = true›
    | exact ⟨_, _, rfl⟩
    | exact res_yes (eq_of_takes hl h1 h2 ‹_› h4)
    | (have hi : i < (a.length : Int) := of_decide_eq_true ‹_›
       have wra : WfRow T [.i .i64, .i .i64, .i .i64, .s, .i .i64, .i .i64, .i .i64, .s, .l 72, .l 9, .l 112] (a.getD i.toNat []) := wa.row rfl (by omega)
       have wrb : WfRow T [.i .i64, .i .i64, .i .i64, .s, .i .i64, .i .i64, .i .i64, .s, .l 72, .l 9, .l 112] (b.getD i.toNat []) := wb.row rfl (by omega)
       first
         | exact ⟨_, _, wra, wrb, rfl⟩
         | exact ⟨_, _, wra, wrb, Nat.lt_of_lt_of_le (size_row (by omega)) (Nat.le_of_lt_succ hs), rfl⟩
         | (refine res_no ?_; rintro rfl; simp_all [eqDs, eqD, str_inj]; done)
         | (refine ⟨a.length - (i + 1).toNat, by omega, i + 1, ?_, by omega, by omega, rfl, takes_next h1 hi hl h4 (row_eq wra wrb ?_)⟩
            · exact congrArg (fun z => ([argS 74 a, argS 74 b, .val false [.i .i64 z]], [])) (wrap_next h1 hi la)
            · simp_all [eqDs, eqD, str_inj, csD, CV.d, rowC, ofD, argG, sub, List.zipIdx, List.range, List.range.loop]))
    | rfl
/-- laws.eqOp -/
theorem ok11 : FOk Tryz.prog T 11 (eqG [.i .i64, .i .i64, .i .i64, .l 3, .i .i64, .i .i64, .i .i64, .i .i64, .i .i64, .s, .s, .i .i64, .s, .s, .i .i64, .i .i64, .l 74]) := by
  refine fok (env := envL [(42, (eqS 3)), (43, (eqG [.i .i64, .i .i64, .i .i64, .i .i64, .i .i64, .s, .s, .i .i64])), (44, (eqS 74))]) (N := 58) tabT (envL_cons ok42 (envL_cons ok43 (envL_cons ok44 envL_nil))) mixed Tryz.func11 rfl Tryz.call11 Tryz.ntmps11 ?_
  rintro args ⟨a, b, wa, wb, rfl⟩ _
  refine ⟨by simp, ?_⟩
  rw [Tryz.results11]
  repeat' first
    | (refine And.intro ?_ ?_)
    | (intro h)
  all_goals first
    | (show lowEdges _ = true; kernel_rfl) | (show logOk _ _ = true; kernel_rfl) | exact True.intro | exact rfl | exact Or.inr rfl | exact Or.inl rfl
    | exact ⟨_, _, rfl⟩
    | exact ⟨_, _, Nat.lt_of_lt_of_le (size_cell (by rw [wa.1]; decide)) (Nat.le_of_lt_succ hs), rfl⟩
    | exact ⟨sub a 0 1, sub b 0 1, wa.sub 0 1 (by decide), wb.sub 0 1 (by decide), rfl⟩ | exact ⟨sub a 1 1, sub b 1 1, wa.sub 1 1 (by decide), wb.sub 1 1 (by decide), rfl⟩ | exact ⟨sub a 2 1, sub b 2 1, wa.sub 2 1 (by decide), wb.sub 2 1 (by decide), rfl⟩ | exact ⟨sub a 3 1, sub b 3 1, wa.sub 3 1 (by decide), wb.sub 3 1 (by decide), rfl⟩ | exact ⟨sub a 4 8, sub b 4 8, wa.sub 4 8 (by decide), wb.sub 4 8 (by decide), rfl⟩ | exact ⟨sub a 12 1, sub b 12 1, wa.sub 12 1 (by decide), wb.sub 12 1 (by decide), rfl⟩ | exact ⟨sub a 13 1, sub b 13 1, wa.sub 13 1 (by decide), wb.sub 13 1 (by decide), rfl⟩ | exact ⟨sub a 14 1, sub b 14 1, wa.sub 14 1 (by decide), wb.sub 14 1 (by decide), rfl⟩ | exact ⟨sub a 15 1, sub b 15 1, wa.sub 15 1 (by decide), wb.sub 15 1 (by decide), rfl⟩ | exact ⟨sub a 16 1, sub b 16 1, wa.sub 16 1 (by decide), wb.sub 16 1 (by decide), rfl⟩
    | (exact res_no (fun he => by have e := row_eq wa wb he; subst e; simp_all))
    | (refine res_yes ?_; simp_all [eqDs, eqD, str_inj, csD, CV.d, rowC, ofD, argG, sub, List.zipIdx, List.range, List.range.loop]; done)
/-- laws.eqStore -/
theorem ok18 : FOk Tryz.prog T 18 (eqG [.s, .i .i64]) := by
  refine fok (env := envL []) (N := 15) tabT envL_nil mixed Tryz.func18 rfl Tryz.call18 Tryz.ntmps18 ?_
  rintro args ⟨a, b, wa, wb, rfl⟩ _
  refine ⟨by simp, ?_⟩
  rw [Tryz.results18]
  repeat' first
    | (refine And.intro ?_ ?_)
    | (intro h)
  all_goals first
    | (show lowEdges _ = true; kernel_rfl) | (show logOk _ _ = true; kernel_rfl) | exact True.intro | exact rfl | exact Or.inr rfl | exact Or.inl rfl
    | exact ⟨_, _, rfl⟩
    | exact ⟨_, _, Nat.lt_of_lt_of_le (size_cell (by rw [wa.1]; decide)) (Nat.le_of_lt_succ hs), rfl⟩
    | exact ⟨sub a 0 1, sub b 0 1, wa.sub 0 1 (by decide), wb.sub 0 1 (by decide), rfl⟩ | exact ⟨sub a 1 1, sub b 1 1, wa.sub 1 1 (by decide), wb.sub 1 1 (by decide), rfl⟩
    | (exact res_no (fun he => by have e := row_eq wa wb he; subst e; simp_all))
    | (refine res_yes ?_; simp_all [eqDs, eqD, str_inj, csD, CV.d, rowC, ofD, argG, sub, List.zipIdx, List.range, List.range.loop]; done)
/-- laws.eqOpS -/
theorem ok54 : FOk Tryz.prog T 54 (eqS 37) := by
  refine fok (env := envL [(11, (eqG [.i .i64, .i .i64, .i .i64, .l 3, .i .i64, .i .i64, .i .i64, .i .i64, .i .i64, .s, .s, .i .i64, .s, .s, .i .i64, .i .i64, .l 74]))]) (N := 27) tabT (envL_cons ok11 envL_nil) mixed Tryz.func54 rfl Tryz.call54 Tryz.ntmps54 ?_
  rintro args ⟨a, b, rfl⟩ hwf
  have wa : WfD T (.l 37) (.l a) := arg0 hwf (List.mem_singleton_self _)
  have wb : WfD T (.l 37) (.l b) := arg1 hwf (List.mem_singleton_self _)
  clear hwf
  have la := wa.len
  refine ⟨by simp, ?_⟩
  rw [Tryz.results54]
  repeat' first
    | (refine And.intro ?_ ?_)
    | (intro h)
  all_goals first
    | (show lowEdges _ = true; kernel_rfl) | (show logOk _ _ = true; kernel_rfl) | exact True.intro | exact rfl | exact Or.inr rfl | exact Or.inl rfl
    | exact res_no (ne_len ‹_›)
    | skip
  have hl := eq_len ‹_›
  refine awp_loop (Q := _) [0, 1, 5] [] (fun n s => ∃ i : Int, s = ([argS 37 a, argS 37 b, .val false [.i .i64 i]], []) ∧ 0 ≤ i ∧ i ≤ a.length ∧ n = a.length - i.toNat ∧ a.take i.toNat = b.take i.toNat) ?_ ?_
  · exact ⟨rfl, a.length - 0, _, rfl, by omega, by omega, rfl, rfl⟩
  rintro n s ⟨i, rfl, h1, h2, h3, h4⟩
  repeat' first
    | (refine And.intro ?_ ?_)
    | (intro h)
  all_goals first
    | (show lowEdges _ = true; kernel_rfl) | (show logOk _ _ = true; kernel_rfl) | exact True.intro | exact rfl | exact Or.inr rfl | exact Or.inl rfl
    | omega
    | exact of_decide_eq_true ‹_›
    | exact hl ▸ of_decide_eq_true ‹decide (i < (a.length : Int)) = true›
    | exact ⟨_, _, rfl⟩
    | exact res_yes (eq_of_takes hl h1 h2 ‹_› h4)
    | (have hi : i < (a.length : Int) := of_decide_eq_true ‹_›
       have wra : WfRow T [.i .i64, .i .i64, .i .i64, .l 3, .i .i64, .i .i64, .i .i64, .i .i64, .i .i64, .s, .s, .i .i64, .s, .s, .i .i64, .i .i64, .l 74] (a.getD i.toNat []) := wa.row rfl (by omega)
       have wrb : WfRow T [.i .i64, .i .i64, .i .i64, .l 3, .i .i64, .i .i64, .i .i64, .i .i64, .i .i64, .s, .s, .i .i64, .s, .s, .i .i64, .i .i64, .l 74] (b.getD i.toNat []) := wb.row rfl (by omega)
       first
         | exact ⟨_, _, wra, wrb, rfl⟩
         | exact ⟨_, _, wra, wrb, Nat.lt_of_lt_of_le (size_row (by omega)) (Nat.le_of_lt_succ hs), rfl⟩
         | (refine res_no ?_; rintro rfl; simp_all [eqDs, eqD, str_inj]; done)
         | (refine ⟨a.length - (i + 1).toNat, by omega, i + 1, ?_, by omega, by omega, rfl, takes_next h1 hi hl h4 (row_eq wra wrb ?_)⟩
            · exact congrArg (fun z => ([argS 37 a, argS 37 b, .val false [.i .i64 z]], [])) (wrap_next h1 hi la)
            · simp_all [eqDs, eqD, str_inj, csD, CV.d, rowC, ofD, argG, sub, List.zipIdx, List.range, List.range.loop]))
    | rfl
/-- laws.eqReplica -/
theorem ok23 : FOk Tryz.prog T 23 (eqG [.i .i64, .l 37]) := by
  refine fok (env := envL [(54, (eqS 37))]) (N := 16) tabT (envL_cons ok54 envL_nil) mixed Tryz.func23 rfl Tryz.call23 Tryz.ntmps23 ?_
  rintro args ⟨a, b, wa, wb, rfl⟩ _
  refine ⟨by simp, ?_⟩
  rw [Tryz.results23]
  repeat' first
    | (refine And.intro ?_ ?_)
    | (intro h)
  all_goals first
    | (show lowEdges _ = true; kernel_rfl) | (show logOk _ _ = true; kernel_rfl) | exact True.intro | exact rfl | exact Or.inr rfl | exact Or.inl rfl
    | exact ⟨_, _, rfl⟩
    | exact ⟨_, _, Nat.lt_of_lt_of_le (size_cell (by rw [wa.1]; decide)) (Nat.le_of_lt_succ hs), rfl⟩
    | exact ⟨sub a 0 1, sub b 0 1, wa.sub 0 1 (by decide), wb.sub 0 1 (by decide), rfl⟩ | exact ⟨sub a 1 1, sub b 1 1, wa.sub 1 1 (by decide), wb.sub 1 1 (by decide), rfl⟩
    | (exact res_no (fun he => by have e := row_eq wa wb he; subst e; simp_all))
    | (refine res_yes ?_; simp_all [eqDs, eqD, str_inj, csD, CV.d, rowC, ofD, argG, sub, List.zipIdx, List.range, List.range.loop]; done)
end Go.Proofs.YtdmipmbeolglaaaGreatDoor.Ab
