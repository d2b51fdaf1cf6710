/- Comparisons: printed by a program of this claim. -/
import Derived.Test.YtaecbmjmcpdgdaaGreatCEd
namespace Go.Proofs.YtaecbmjmcpdgdaaGreat.Ab
open Go.RowKit
set_option linter.unusedVariables false
set_option linter.unusedSimpArgs false
set_option maxRecDepth 100000
set_option maxHeartbeats 1000000
theorem ok80 : FOk Tryz.prog T 80 (eqS 3) := by
  refine fok (env := envL []) (N := 26) tabT envL_nil mixed Tryz.func80 rfl Tryz.call80 Tryz.ntmps80 ?_
  rintro args ⟨a, b, rfl⟩ hwf
  have wa : WfD T (.l 3) (.l a) := arg0 hwf (List.mem_singleton_self _)
  have wb : WfD T (.l 3) (.l b) := arg1 hwf (List.mem_singleton_self _)
  clear hwf
  have la := wa.len
  refine ⟨by simp, ?_⟩
  rw [Tryz.results80]
  repeat' first
    | (refine And.intro ?_ ?_)
    | (intro h)
  all_goals first
    | (show lowEdges _ = true; kernel_rfl) | (show logOk _ _ = true; kernel_rfl) | exact True.intro | exact rfl | exact Or.inr rfl | exact Or.inl rfl
    | exact res_no (ne_len ‹_›)
    | skip
  have hl := eq_len ‹_›
  refine awp_loop (Q := _) [0, 1, 5] [] (fun n s => ∃ i : Int, s = ([argS 3 a, argS 3 b, .val false [.i .i64 i]], []) ∧ 0 ≤ i ∧ i ≤ a.length ∧ n = a.length - i.toNat ∧ a.take i.toNat = b.take i.toNat) ?_ ?_
  · exact ⟨rfl, a.length - 0, _, rfl, by omega, by omega, rfl, rfl⟩
  rintro n s ⟨i, rfl, h1, h2, h3, h4⟩
  repeat' first
    | (refine And.intro ?_ ?_)
    | (intro h)
  all_goals first
    | (show lowEdges _ = true; kernel_rfl) | (show logOk _ _ = true; kernel_rfl) | exact True.intro | exact rfl | exact Or.inr rfl | exact Or.inl rfl
    | omega
    | exact of_decide_eq_true ‹_›
    | exact hl ▸ of_decide_eq_true ‹decide (i < (a.length : Int)) = true›
    | exact ⟨_, _, rfl⟩
    | exact res_yes (eq_of_takes hl h1 h2 ‹_› h4)
    | (have hi : i < (a.length : Int) := of_decide_eq_true ‹_›
       have wra : WfRow T [.i .i64] (a.getD i.toNat []) := wa.row rfl (by omega)
       have wrb : WfRow T [.i .i64] (b.getD i.toNat []) := wb.row rfl (by omega)
       first
         | exact ⟨_, _, wra, wrb, rfl⟩
         | exact ⟨_, _, wra, wrb, Nat.lt_of_lt_of_le (size_row (by omega)) (Nat.le_of_lt_succ hs), rfl⟩
         | (refine res_no ?_; rintro rfl; simp_all [eqDs, eqD, str_inj]; done)
         | (refine ⟨a.length - (i + 1).toNat, by omega, i + 1, ?_, by omega, by omega, rfl, takes_next h1 hi hl h4 (row_eq wra wrb ?_)⟩
            · exact congrArg (fun z => ([argS 3 a, argS 3 b, .val false [.i .i64 z]], [])) (wrap_next h1 hi la)
            · simp_all [eqDs, eqD, str_inj, csD, CV.d, rowC, ofD, argG, sub, List.zipIdx, List.range, List.range.loop]))
    | rfl
theorem ok93 : FOk Tryz.prog T 93 (eqG [.i .i64, .i .i64, .i .i64, .s, .s, .i .i64]) := by
  refine fok (env := envL []) (N := 35) tabT envL_nil mixed Tryz.func93 rfl Tryz.call93 Tryz.ntmps93 ?_
  rintro args ⟨a, b, wa, wb, rfl⟩ _
  refine ⟨by simp, ?_⟩
  rw [Tryz.results93]
  repeat' first
    | (refine And.intro ?_ ?_)
    | (intro h)
  all_goals first
    | (show lowEdges _ = true; kernel_rfl) | (show logOk _ _ = true; kernel_rfl) | exact True.intro | exact rfl | exact Or.inr rfl | exact Or.inl rfl
    | exact ⟨_, _, rfl⟩
    | exact ⟨_, _, Nat.lt_of_lt_of_le (size_cell (by rw [wa.1]; decide)) (Nat.le_of_lt_succ hs), rfl⟩
    | exact ⟨sub a 0 1, sub b 0 1, wa.sub 0 1 (by decide), wb.sub 0 1 (by decide), rfl⟩ | exact ⟨sub a 1 1, sub b 1 1, wa.sub 1 1 (by decide), wb.sub 1 1 (by decide), rfl⟩ | exact ⟨sub a 2 1, sub b 2 1, wa.sub 2 1 (by decide), wb.sub 2 1 (by decide), rfl⟩ | exact ⟨sub a 3 1, sub b 3 1, wa.sub 3 1 (by decide), wb.sub 3 1 (by decide), rfl⟩ | exact ⟨sub a 4 1, sub b 4 1, wa.sub 4 1 (by decide), wb.sub 4 1 (by decide), rfl⟩ | exact ⟨sub a 5 1, sub b 5 1, wa.sub 5 1 (by decide), wb.sub 5 1 (by decide), rfl⟩
    | (exact res_no (fun he => by have e := row_eq wa wb he; subst e; simp_all))
    | (refine res_yes ?_; simp_all [eqDs, eqD, str_inj, csD, CV.d, rowC, ofD, argG, sub, List.zipIdx, List.range, List.range.loop]; done)
theorem ok81 : FOk Tryz.prog T 81 (eqG [.i .i64, .i .i64, .i .i64, .i .i64, .i .i64, .s, .s, .i .i64]) := by
  refine fok (env := envL [(93, (eqG [.i .i64, .i .i64, .i .i64, .s, .s, .i .i64]))]) (N := 21) tabT (envL_cons ok93 envL_nil) mixed Tryz.func81 rfl Tryz.call81 Tryz.ntmps81 ?_
  rintro args ⟨a, b, wa, wb, rfl⟩ _
  refine ⟨by simp, ?_⟩
  rw [Tryz.results81]
  repeat' first
    | (refine And.intro ?_ ?_)
    | (intro h)
  all_goals first
    | (show lowEdges _ = true; kernel_rfl) | (show logOk _ _ = true; kernel_rfl) | exact True.intro | exact rfl | exact Or.inr rfl | exact Or.inl rfl
    | exact ⟨_, _, rfl⟩
    | exact ⟨_, _, Nat.lt_of_lt_of_le (size_cell (by rw [wa.1]; decide)) (Nat.le_of_lt_succ hs), rfl⟩
    | exact ⟨sub a 0 1, sub b 0 1, wa.sub 0 1 (by decide), wb.sub 0 1 (by decide), rfl⟩ | exact ⟨sub a 1 1, sub b 1 1, wa.sub 1 1 (by decide), wb.sub 1 1 (by decide), rfl⟩ | exact ⟨sub a 2 6, sub b 2 6, wa.sub 2 6 (by decide), wb.sub 2 6 (by decide), rfl⟩
    | (exact res_no (fun he => by have e := row_eq wa wb he; subst e; simp_all))
    | (refine res_yes ?_; simp_all [eqDs, eqD, str_inj, csD, CV.d, rowC, ofD, argG, sub, List.zipIdx, List.range, List.range.loop]; done)
theorem ok107 : FOk Tryz.prog T 107 (eqS 9) := by
  refine fok (env := envL []) (N := 26) tabT envL_nil mixed Tryz.func107 rfl Tryz.call107 Tryz.ntmps107 ?_
  rintro args ⟨a, b, rfl⟩ hwf
  have wa : WfD T (.l 9) (.l a) := arg0 hwf (List.mem_singleton_self _)
  have wb : WfD T (.l 9) (.l b) := arg1 hwf (List.mem_singleton_self _)
  clear hwf
  have la := wa.len
  refine ⟨by simp, ?_⟩
  rw [Tryz.results107]
  repeat' first
    | (refine And.intro ?_ ?_)
    | (intro h)
  all_goals first
    | (show lowEdges _ = true; kernel_rfl) | (show logOk _ _ = true; kernel_rfl) | exact True.intro | exact rfl | exact Or.inr rfl | exact Or.inl rfl
    | exact res_no (ne_len ‹_›)
    | skip
  have hl := eq_len ‹_›
  refine awp_loop (Q := _) [0, 1, 5] [] (fun n s => ∃ i : Int, s = ([argS 9 a, argS 9 b, .val false [.i .i64 i]], []) ∧ 0 ≤ i ∧ i ≤ a.length ∧ n = a.length - i.toNat ∧ a.take i.toNat = b.take i.toNat) ?_ ?_
  · exact ⟨rfl, a.length - 0, _, rfl, by omega, by omega, rfl, rfl⟩
  rintro n s ⟨i, rfl, h1, h2, h3, h4⟩
  repeat' first
    | (refine And.intro ?_ ?_)
    | (intro h)
  all_goals first
    | (show lowEdges _ = true; kernel_rfl) | (show logOk _ _ = true; kernel_rfl) | exact True.intro | exact rfl | exact Or.inr rfl | exact Or.inl rfl
    | omega
    | exact of_decide_eq_true ‹_›
    | exact hl ▸ of_decide_eq_true ‹decide (i < (a.length : Int)) = true›
    | exact ⟨_, _, rfl⟩
    | exact res_yes (eq_of_takes hl h1 h2 ‹_› h4)
    | (have hi : i < (a.length : Int) := of_decide_eq_true ‹_›
       have wra : WfRow T [.s] (a.getD i.toNat []) := wa.row rfl (by omega)
       have wrb : WfRow T [.s] (b.getD i.toNat []) := wb.row rfl (by omega)
       first
         | exact ⟨_, _, wra, wrb, rfl⟩
         | exact ⟨_, _, wra, wrb, Nat.lt_of_lt_of_le (size_row (by omega)) (Nat.le_of_lt_succ hs), rfl⟩
         | (refine res_no ?_; rintro rfl; simp_all [eqDs, eqD, str_inj]; done)
         | (refine ⟨a.length - (i + 1).toNat, by omega, i + 1, ?_, by omega, by omega, rfl, takes_next h1 hi hl h4 (row_eq wra wrb ?_)⟩
            · exact congrArg (fun z => ([argS 9 a, argS 9 b, .val false [.i .i64 z]], [])) (wrap_next h1 hi la)
            · simp_all [eqDs, eqD, str_inj, csD, CV.d, rowC, ofD, argG, sub, List.zipIdx, List.range, List.range.loop]))
    | rfl
theorem ok116 : FOk Tryz.prog T 116 (eqG [.i .i64, .i .i64]) := by
  refine fok (env := envL []) (N := 15) tabT envL_nil mixed Tryz.func116 rfl Tryz.call116 Tryz.ntmps116 ?_
  rintro args ⟨a, b, wa, wb, rfl⟩ _
  refine ⟨by simp, ?_⟩
  rw [Tryz.results116]
  repeat' first
    | (refine And.intro ?_ ?_)
    | (intro h)
  all_goals first
    | (show lowEdges _ = true; kernel_rfl) | (show logOk _ _ = true; kernel_rfl) | exact True.intro | exact rfl | exact Or.inr rfl | exact Or.inl rfl
    | exact ⟨_, _, rfl⟩
    | exact ⟨_, _, Nat.lt_of_lt_of_le (size_cell (by rw [wa.1]; decide)) (Nat.le_of_lt_succ hs), rfl⟩
    | exact ⟨sub a 0 1, sub b 0 1, wa.sub 0 1 (by decide), wb.sub 0 1 (by decide), rfl⟩ | exact ⟨sub a 1 1, sub b 1 1, wa.sub 1 1 (by decide), wb.sub 1 1 (by decide), rfl⟩
    | (exact res_no (fun he => by have e := row_eq wa wb he; subst e; simp_all))
    | (refine res_yes ?_; simp_all [eqDs, eqD, str_inj, csD, CV.d, rowC, ofD, argG, sub, List.zipIdx, List.range, List.range.loop]; done)
theorem ok114 : FOk Tryz.prog T 114 (eqS 133) := by
  refine fok (env := envL [(116, (eqG [.i .i64, .i .i64]))]) (N := 27) tabT (envL_cons ok116 envL_nil) mixed Tryz.func114 rfl Tryz.call114 Tryz.ntmps114 ?_
  rintro args ⟨a, b, rfl⟩ hwf
  have wa : WfD T (.l 133) (.l a) := arg0 hwf (List.mem_singleton_self _)
  have wb : WfD T (.l 133) (.l b) := arg1 hwf (List.mem_singleton_self _)
  clear hwf
  have la := wa.len
  refine ⟨by simp, ?_⟩
  rw [Tryz.results114]
  repeat' first
    | (refine And.intro ?_ ?_)
    | (intro h)
  all_goals first
    | (show lowEdges _ = true; kernel_rfl) | (show logOk _ _ = true; kernel_rfl) | exact True.intro | exact rfl | exact Or.inr rfl | exact Or.inl rfl
    | exact res_no (ne_len ‹_›)
    | skip
  have hl := eq_len ‹_›
  refine awp_loop (Q := _) [0, 1, 5] [] (fun n s => ∃ i : Int, s = ([argS 133 a, argS 133 b, .val false [.i .i64 i]], []) ∧ 0 ≤ i ∧ i ≤ a.length ∧ n = a.length - i.toNat ∧ a.take i.toNat = b.take i.toNat) ?_ ?_
  · exact ⟨rfl, a.length - 0, _, rfl, by omega, by omega, rfl, rfl⟩
  rintro n s ⟨i, rfl, h1, h2, h3, h4⟩
  repeat' first
    | (refine And.intro ?_ ?_)
    | (intro h)
  all_goals first
    | (show lowEdges _ = true; kernel_rfl) | (show logOk _ _ = true; kernel_rfl) | exact True.intro | exact rfl | exact Or.inr rfl | exact Or.inl rfl
    | omega
    | exact of_decide_eq_true ‹_›
    | exact hl ▸ of_decide_eq_true ‹decide (i < (a.length : Int)) = true›
    | exact ⟨_, _, rfl⟩
    | exact res_yes (eq_of_takes hl h1 h2 ‹_› h4)
    | (have hi : i < (a.length : Int) := of_decide_eq_true ‹_›
       have wra : WfRow T [.i .i64, .i .i64] (a.getD i.toNat []) := wa.row rfl (by omega)
       have wrb : WfRow T [.i .i64, .i .i64] (b.getD i.toNat []) := wb.row rfl (by omega)
       first
         | exact ⟨_, _, wra, wrb, rfl⟩
         | exact ⟨_, _, wra, wrb, Nat.lt_of_lt_of_le (size_row (by omega)) (Nat.le_of_lt_succ hs), rfl⟩
         | (refine res_no ?_; rintro rfl; simp_all [eqDs, eqD, str_inj]; done)
         | (refine ⟨a.length - (i + 1).toNat, by omega, i + 1, ?_, by omega, by omega, rfl, takes_next h1 hi hl h4 (row_eq wra wrb ?_)⟩
            · exact congrArg (fun z => ([argS 133 a, argS 133 b, .val false [.i .i64 z]], [])) (wrap_next h1 hi la)
            · simp_all [eqDs, eqD, str_inj, csD, CV.d, rowC, ofD, argG, sub, List.zipIdx, List.range, List.range.loop]))
    | rfl
theorem ok111 : FOk Tryz.prog T 111 (eqG [.l 3, .l 133]) := by
  refine fok (env := envL [(80, (eqS 3)), (114, (eqS 133))]) (N := 17) tabT (envL_cons ok80 (envL_cons ok114 envL_nil)) mixed Tryz.func111 rfl Tryz.call111 Tryz.ntmps111 ?_
  rintro args ⟨a, b, wa, wb, rfl⟩ _
  refine ⟨by simp, ?_⟩
  rw [Tryz.results111]
  repeat' first
    | (refine And.intro ?_ ?_)
    | (intro h)
  all_goals first
    | (show lowEdges _ = true; kernel_rfl) | (show logOk _ _ = true; kernel_rfl) | exact True.intro | exact rfl | exact Or.inr rfl | exact Or.inl rfl
    | exact ⟨_, _, rfl⟩
    | exact ⟨_, _, Nat.lt_of_lt_of_le (size_cell (by rw [wa.1]; decide)) (Nat.le_of_lt_succ hs), rfl⟩
    | exact ⟨sub a 0 1, sub b 0 1, wa.sub 0 1 (by decide), wb.sub 0 1 (by decide), rfl⟩ | exact ⟨sub a 1 1, sub b 1 1, wa.sub 1 1 (by decide), wb.sub 1 1 (by decide), rfl⟩
    | (exact res_no (fun he => by have e := row_eq wa wb he; subst e; simp_all))
    | (refine res_yes ?_; simp_all [eqDs, eqD, str_inj, csD, CV.d, rowC, ofD, argG, sub, List.zipIdx, List.range, List.range.loop]; done)
theorem ok108 : FOk Tryz.prog T 108 (eqS 115) := by
  refine fok (env := envL [(111, (eqG [.l 3, .l 133]))]) (N := 27) tabT (envL_cons ok111 envL_nil) mixed Tryz.func108 rfl Tryz.call108 Tryz.ntmps108 ?_
  rintro args ⟨a, b, rfl⟩ hwf
  have wa : WfD T (.l 115) (.l a) := arg0 hwf (List.mem_singleton_self _)
  have wb : WfD T (.l 115) (.l b) := arg1 hwf (List.mem_singleton_self _)
  clear hwf
  have la := wa.len
  refine ⟨by simp, ?_⟩
  rw [Tryz.results108]
  repeat' first
    | (refine And.intro ?_ ?_)
    | (intro h)
  all_goals first
    | (show lowEdges _ = true; kernel_rfl) | (show logOk _ _ = true; kernel_rfl) | exact True.intro | exact rfl | exact Or.inr rfl | exact Or.inl rfl
    | exact res_no (ne_len ‹_›)
    | skip
  have hl := eq_len ‹_›
  refine awp_loop (Q := _) [0, 1, 5] [] (fun n s => ∃ i : Int, s = ([argS 115 a, argS 115 b, .val false [.i .i64 i]], []) ∧ 0 ≤ i ∧ i ≤ a.length ∧ n = a.length - i.toNat ∧ a.take i.toNat = b.take i.toNat) ?_ ?_
  · exact ⟨rfl, a.length - 0, _, rfl, by omega, by omega, rfl, rfl⟩
  rintro n s ⟨i, rfl, h1, h2, h3, h4⟩
  repeat' first
    | (refine And.intro ?_ ?_)
    | (intro h)
  all_goals first
    | (show lowEdges _ = true; kernel_rfl) | (show logOk _ _ = true; kernel_rfl) | exact True.intro | exact rfl | exact Or.inr rfl | exact Or.inl rfl
    | omega
    | exact of_decide_eq_true ‹_›
    | exact hl ▸ of_decide_eq_true ‹decide (i < (a.length : Int)) = true›
    | exact ⟨_, _, rfl⟩
    | exact res_yes (eq_of_takes hl h1 h2 ‹_› h4)
    | (have hi : i < (a.length : Int) := of_decide_eq_true ‹_›
       have wra : WfRow T [.l 3, .l 133] (a.getD i.toNat []) := wa.row rfl (by omega)
       have wrb : WfRow T [.l 3, .l 133] (b.getD i.toNat []) := wb.row rfl (by omega)
       first
         | exact ⟨_, _, wra, wrb, rfl⟩
         | exact ⟨_, _, wra, wrb, Nat.lt_of_lt_of_le (size_row (by omega)) (Nat.le_of_lt_succ hs), rfl⟩
         | (refine res_no ?_; rintro rfl; simp_all [eqDs, eqD, str_inj]; done)
         | (refine ⟨a.length - (i + 1).toNat, by omega, i + 1, ?_, by omega, by omega, rfl, takes_next h1 hi hl h4 (row_eq wra wrb ?_)⟩
            · exact congrArg (fun z => ([argS 115 a, argS 115 b, .val false [.i .i64 z]], [])) (wrap_next h1 hi la)
            · simp_all [eqDs, eqD, str_inj, csD, CV.d, rowC, ofD, argG, sub, List.zipIdx, List.range, List.range.loop]))
    | rfl
theorem step99 (n : Nat) (hn : FOk Tryz.prog T 106 (eqSn 92 n)) : FOk Tryz.prog T 99 (eqGn [.i .i64, .i .i64, .i .i64, .s, .l 92, .l 9, .l 115] (n + 1)) := by
  refine fok (env := envL [(106, (eqSn 92 n)), (107, (eqS 9)), (108, (eqS 115))]) (N := 43) tabT (envL_cons hn (envL_cons ok107 (envL_cons ok108 envL_nil))) mixed Tryz.func99 rfl Tryz.call99 Tryz.ntmps99 ?_
  rintro args ⟨a, b, wa, wb, hs, rfl⟩ _
  refine ⟨by simp, ?_⟩
  rw [Tryz.results99]
  repeat' first
    | (refine And.intro ?_ ?_)
    | (intro h)
  all_goals first
    | (show lowEdges _ = true; kernel_rfl) | (show logOk _ _ = true; kernel_rfl) | exact True.intro | exact rfl | exact Or.inr rfl | exact Or.inl rfl
    | exact ⟨_, _, rfl⟩
    | exact ⟨_, _, Nat.lt_of_lt_of_le (size_cell (by rw [wa.1]; decide)) (Nat.le_of_lt_succ hs), rfl⟩
    | exact ⟨sub a 0 1, sub b 0 1, wa.sub 0 1 (by decide), wb.sub 0 1 (by decide), rfl⟩ | exact ⟨sub a 1 1, sub b 1 1, wa.sub 1 1 (by decide), wb.sub 1 1 (by decide), rfl⟩ | exact ⟨sub a 2 1, sub b 2 1, wa.sub 2 1 (by decide), wb.sub 2 1 (by decide), rfl⟩ | exact ⟨sub a 3 1, sub b 3 1, wa.sub 3 1 (by decide), wb.sub 3 1 (by decide), rfl⟩ | exact ⟨sub a 4 1, sub b 4 1, wa.sub 4 1 (by decide), wb.sub 4 1 (by decide), rfl⟩ | exact ⟨sub a 5 1, sub b 5 1, wa.sub 5 1 (by decide), wb.sub 5 1 (by decide), rfl⟩ | exact ⟨sub a 6 1, sub b 6 1, wa.sub 6 1 (by decide), wb.sub 6 1 (by decide), rfl⟩
    | (exact res_no (fun he => by have e := row_eq wa wb he; subst e; simp_all))
    | (refine res_yes ?_; simp_all [eqDs, eqD, str_inj, csD, CV.d, rowC, ofD, argG, sub, List.zipIdx, List.range, List.range.loop]; done)
theorem step106 (n : Nat) (hn : FOk Tryz.prog T 99 (eqGn [.i .i64, .i .i64, .i .i64, .s, .l 92, .l 9, .l 115] n)) : FOk Tryz.prog T 106 (eqSn 92 (n + 1)) := by
  refine fok (env := envL [(99, (eqGn [.i .i64, .i .i64, .i .i64, .s, .l 92, .l 9, .l 115] n))]) (N := 27) tabT (envL_cons hn envL_nil) mixed Tryz.func106 rfl Tryz.call106 Tryz.ntmps106 ?_
  rintro args ⟨a, b, hs, rfl⟩ hwf
  have wa : WfD T (.l 92) (.l a) := arg0 hwf (List.mem_singleton_self _)
  have wb : WfD T (.l 92) (.l b) := arg1 hwf (List.mem_singleton_self _)
  clear hwf
  have la := wa.len
  refine ⟨by simp, ?_⟩
  rw [Tryz.results106]
  repeat' first
    | (refine And.intro ?_ ?_)
    | (intro h)
  all_goals first
    | (show lowEdges _ = true; kernel_rfl) | (show logOk _ _ = true; kernel_rfl) | exact True.intro | exact rfl | exact Or.inr rfl | exact Or.inl rfl
    | exact res_no (ne_len ‹_›)
    | skip
  have hl := eq_len ‹_›
  refine awp_loop (Q := _) [0, 1, 5] [] (fun n s => ∃ i : Int, s = ([argS 92 a, argS 92 b, .val false [.i .i64 i]], []) ∧ 0 ≤ i ∧ i ≤ a.length ∧ n = a.length - i.toNat ∧ a.take i.toNat = b.take i.toNat) ?_ ?_
  · exact ⟨rfl, a.length - 0, _, rfl, by omega, by omega, rfl, rfl⟩
  rintro n s ⟨i, rfl, h1, h2, h3, h4⟩
  repeat' first
    | (refine And.intro ?_ ?_)
    | (intro h)
  all_goals first
    | (show lowEdges _ = true; kernel_rfl) | (show logOk _ _ = true; kernel_rfl) | exact True.intro | exact rfl | exact Or.inr rfl | exact Or.inl rfl
    | omega
    | exact of_decide_eq_true ‹_›
    | exact hl ▸ of_decide_eq_true ‹decide (i < (a.length : Int)) = true›
    | exact ⟨_, _, rfl⟩
    | exact res_yes (eq_of_takes hl h1 h2 ‹_› h4)
    | (have hi : i < (a.length : Int) := of_decide_eq_true ‹_›
       have wra : WfRow T [.i .i64, .i .i64, .i .i64, .s, .l 92, .l 9, .l 115] (a.getD i.toNat []) := wa.row rfl (by omega)
       have wrb : WfRow T [.i .i64, .i .i64, .i .i64, .s, .l 92, .l 9, .l 115] (b.getD i.toNat []) := wb.row rfl (by omega)
       first
         | exact ⟨_, _, wra, wrb, rfl⟩
         | exact ⟨_, _, wra, wrb, Nat.lt_of_lt_of_le (size_row (by omega)) (Nat.le_of_lt_succ hs), rfl⟩
         | (refine res_no ?_; rintro rfl; simp_all [eqDs, eqD, str_inj]; done)
         | (refine ⟨a.length - (i + 1).toNat, by omega, i + 1, ?_, by omega, by omega, rfl, takes_next h1 hi hl h4 (row_eq wra wrb ?_)⟩
            · exact congrArg (fun z => ([argS 92 a, argS 92 b, .val false [.i .i64 z]], [])) (wrap_next h1 hi la)
            · simp_all [eqDs, eqD, str_inj, csD, CV.d, rowC, ofD, argG, sub, List.zipIdx, List.range, List.range.loop]))
    | rfl
theorem zero99 : FOk Tryz.prog T 99 (eqGn [.i .i64, .i .i64, .i .i64, .s, .l 92, .l 9, .l 115] 0) := by
  refine fok (env := envL []) (N := 43) tabT envL_nil mixed Tryz.func99 rfl Tryz.call99 Tryz.ntmps99 ?_
  rintro args ⟨a, b, wa, wb, hs, rfl⟩ _
  exact absurd hs (Nat.not_lt_zero _)
theorem zero106 : FOk Tryz.prog T 106 (eqSn 92 0) := by
  refine fok (env := envL []) (N := 27) tabT envL_nil mixed Tryz.func106 rfl Tryz.call106 Tryz.ntmps106 ?_
  rintro args ⟨a, b, hs, rfl⟩ _
  exact absurd hs (Nat.not_lt_zero _)
theorem both99 (n : Nat) : FOk Tryz.prog T 99 (eqGn [.i .i64, .i .i64, .i .i64, .s, .l 92, .l 9, .l 115] n) ∧ FOk Tryz.prog T 106 (eqSn 92 n) := by
  induction n with
  | zero => exact ⟨zero99, zero106⟩
  | succ n ih => exact ⟨step99 n ih.2, step106 n ih.1⟩
theorem ok99 : FOk Tryz.prog T 99 (eqG [.i .i64, .i .i64, .i .i64, .s, .l 92, .l 9, .l 115]) := FOk.lift (s := fun n => (eqGn [.i .i64, .i .i64, .i .i64, .s, .l 92, .l 9, .l 115] n)) (fun n => (both99 n).1) (fun args ⟨a, b, wa, wb, h⟩ => ⟨SizeOf.sizeOf a + 1, a, b, wa, wb, Nat.lt_succ_self _, h⟩) (fun n => rfl)
theorem ok94 : FOk Tryz.prog T 94 (eqG [.i .i64, .i .i64, .i .i64, .s, .i .i64, .i .i64, .i .i64, .s, .l 92, .l 9, .l 115]) := by
  refine fok (env := envL [(99, (eqG [.i .i64, .i .i64, .i .i64, .s, .l 92, .l 9, .l 115]))]) (N := 31) tabT (envL_cons ok99 envL_nil) mixed Tryz.func94 rfl Tryz.call94 Tryz.ntmps94 ?_
  rintro args ⟨a, b, wa, wb, rfl⟩ _
  refine ⟨by simp, ?_⟩
  rw [Tryz.results94]
  repeat' first
    | (refine And.intro ?_ ?_)
    | (intro h)
  all_goals first
    | (show lowEdges _ = true; kernel_rfl) | (show logOk _ _ = true; kernel_rfl) | exact True.intro | exact rfl | exact Or.inr rfl | exact Or.inl rfl
    | exact ⟨_, _, rfl⟩
    | exact ⟨_, _, Nat.lt_of_lt_of_le (size_cell (by rw [wa.1]; decide)) (Nat.le_of_lt_succ hs), rfl⟩
    | exact ⟨sub a 0 1, sub b 0 1, wa.sub 0 1 (by decide), wb.sub 0 1 (by decide), rfl⟩ | exact ⟨sub a 1 1, sub b 1 1, wa.sub 1 1 (by decide), wb.sub 1 1 (by decide), rfl⟩ | exact ⟨sub a 2 1, sub b 2 1, wa.sub 2 1 (by decide), wb.sub 2 1 (by decide), rfl⟩ | exact ⟨sub a 3 1, sub b 3 1, wa.sub 3 1 (by decide), wb.sub 3 1 (by decide), rfl⟩ | exact ⟨sub a 4 7, sub b 4 7, wa.sub 4 7 (by decide), wb.sub 4 7 (by decide), rfl⟩
    | (exact res_no (fun he => by have e := row_eq wa wb he; subst e; simp_all))
    | (refine res_yes ?_; simp_all [eqDs, eqD, str_inj, csD, CV.d, rowC, ofD, argG, sub, List.zipIdx, List.range, List.range.loop]; done)
theorem ok82 : FOk Tryz.prog T 82 (eqS 94) := by
  refine fok (env := envL [(94, (eqG [.i .i64, .i .i64, .i .i64, .s, .i .i64, .i .i64, .i .i64, .s, .l 92, .l 9, .l 115]))]) (N := 27) tabT (envL_cons ok94 envL_nil) mixed Tryz.func82 rfl Tryz.call82 Tryz.ntmps82 ?_
  rintro args ⟨a, b, rfl⟩ hwf
  have wa : WfD T (.l 94) (.l a) := arg0 hwf (List.mem_singleton_self _)
  have wb : WfD T (.l 94) (.l b) := arg1 hwf (List.mem_singleton_self _)
  clear hwf
  have la := wa.len
  refine ⟨by simp, ?_⟩
  rw [Tryz.results82]
  repeat' first
    | (refine And.intro ?_ ?_)
    | (intro h)
  all_goals first
    | (show lowEdges _ = true; kernel_rfl) | (show logOk _ _ = true; kernel_rfl) | exact True.intro | exact rfl | exact Or.inr rfl | exact Or.inl rfl
    | exact res_no (ne_len ‹_›)
    | skip
  have hl := eq_len ‹_›
  refine awp_loop (Q := _) [0, 1, 5] [] (fun n s => ∃ i : Int, s = ([argS 94 a, argS 94 b, .val false [.i .i64 i]], []) ∧ 0 ≤ i ∧ i ≤ a.length ∧ n = a.length - i.toNat ∧ a.take i.toNat = b.take i.toNat) ?_ ?_
  · exact ⟨rfl, a.length - 0, _, rfl, by omega, by omega, rfl, rfl⟩
  rintro n s ⟨i, rfl, h1, h2, h3, h4⟩
  repeat' first
    | (refine And.intro ?_ ?_)
    | (intro h)
  all_goals first
    | (show lowEdges _ = true; kernel_rfl) | (show logOk _ _ = true; kernel_rfl) | exact True.intro | exact rfl | exact Or.inr rfl | exact Or.inl rfl
    | omega
    | exact of_decide_eq_true ‹_›
    | exact hl ▸ of_decide_eq_true ‹decide (i < (a.length : Int)) = true›
    | exact ⟨_, _, rfl⟩
    | exact res_yes (eq_of_takes hl h1 h2 ‹_› h4)
    | (have hi : i < (a.length : Int) := of_decide_eq_true ‹_›
       have wra : WfRow T [.i .i64, .i .i64, .i .i64, .s, .i .i64, .i .i64, .i .i64, .s, .l 92, .l 9, .l 115] (a.getD i.toNat []) := wa.row rfl (by omega)
       have wrb : WfRow T [.i .i64, .i .i64, .i .i64, .s, .i .i64, .i .i64, .i .i64, .s, .l 92, .l 9, .l 115] (b.getD i.toNat []) := wb.row rfl (by omega)
       first
         | exact ⟨_, _, wra, wrb, rfl⟩
         | exact ⟨_, _, wra, wrb, Nat.lt_of_lt_of_le (size_row (by omega)) (Nat.le_of_lt_succ hs), rfl⟩
         | (refine res_no ?_; rintro rfl; simp_all [eqDs, eqD, str_inj]; done)
         | (refine ⟨a.length - (i + 1).toNat, by omega, i + 1, ?_, by omega, by omega, rfl, takes_next h1 hi hl h4 (row_eq wra wrb ?_)⟩
            · exact congrArg (fun z => ([argS 94 a, argS 94 b, .val false [.i .i64 z]], [])) (wrap_next h1 hi la)
            · simp_all [eqDs, eqD, str_inj, csD, CV.d, rowC, ofD, argG, sub, List.zipIdx, List.range, List.range.loop]))
    | rfl
theorem ok54 : FOk Tryz.prog T 54 (eqG [.i .i64, .i .i64, .i .i64, .l 3, .i .i64, .i .i64, .i .i64, .i .i64, .i .i64, .s, .s, .i .i64, .s, .s, .i .i64, .i .i64, .l 94]) := by
  refine fok (env := envL [(80, (eqS 3)), (81, (eqG [.i .i64, .i .i64, .i .i64, .i .i64, .i .i64, .s, .s, .i .i64])), (82, (eqS 94))]) (N := 58) tabT (envL_cons ok80 (envL_cons ok81 (envL_cons ok82 envL_nil))) mixed Tryz.func54 rfl Tryz.call54 Tryz.ntmps54 ?_
  rintro args ⟨a, b, wa, wb, rfl⟩ _
  refine ⟨by simp, ?_⟩
  rw [Tryz.results54]
  repeat' first
    | (refine And.intro ?_ ?_)
    | (intro h)
  all_goals first
    | (show lowEdges _ = true; kernel_rfl) | (show logOk _ _ = true; kernel_rfl) | exact True.intro | exact rfl | exact Or.inr rfl | exact Or.inl rfl
    | exact ⟨_, _, rfl⟩
    | exact ⟨_, _, Nat.lt_of_lt_of_le (size_cell (by rw [wa.1]; decide)) (Nat.le_of_lt_succ hs), rfl⟩
    | exact ⟨sub a 0 1, sub b 0 1, wa.sub 0 1 (by decide), wb.sub 0 1 (by decide), rfl⟩ | exact ⟨sub a 1 1, sub b 1 1, wa.sub 1 1 (by decide), wb.sub 1 1 (by decide), rfl⟩ | exact ⟨sub a 2 1, sub b 2 1, wa.sub 2 1 (by decide), wb.sub 2 1 (by decide), rfl⟩ | exact ⟨sub a 3 1, sub b 3 1, wa.sub 3 1 (by decide), wb.sub 3 1 (by decide), rfl⟩ | exact ⟨sub a 4 8, sub b 4 8, wa.sub 4 8 (by decide), wb.sub 4 8 (by decide), rfl⟩ | exact ⟨sub a 12 1, sub b 12 1, wa.sub 12 1 (by decide), wb.sub 12 1 (by decide), rfl⟩ | exact ⟨sub a 13 1, sub b 13 1, wa.sub 13 1 (by decide), wb.sub 13 1 (by decide), rfl⟩ | exact ⟨sub a 14 1, sub b 14 1, wa.sub 14 1 (by decide), wb.sub 14 1 (by decide), rfl⟩ | exact ⟨sub a 15 1, sub b 15 1, wa.sub 15 1 (by decide), wb.sub 15 1 (by decide), rfl⟩ | exact ⟨sub a 16 1, sub b 16 1, wa.sub 16 1 (by decide), wb.sub 16 1 (by decide), rfl⟩
    | (exact res_no (fun he => by have e := row_eq wa wb he; subst e; simp_all))
    | (refine res_yes ?_; simp_all [eqDs, eqD, str_inj, csD, CV.d, rowC, ofD, argG, sub, List.zipIdx, List.range, List.range.loop]; done)
theorem ok39 : FOk Tryz.prog T 39 (eqS 54) := by
  refine fok (env := envL [(54, (eqG [.i .i64, .i .i64, .i .i64, .l 3, .i .i64, .i .i64, .i .i64, .i .i64, .i .i64, .s, .s, .i .i64, .s, .s, .i .i64, .i .i64, .l 94]))]) (N := 27) tabT (envL_cons ok54 envL_nil) mixed Tryz.func39 rfl Tryz.call39 Tryz.ntmps39 ?_
  rintro args ⟨a, b, rfl⟩ hwf
  have wa : WfD T (.l 54) (.l a) := arg0 hwf (List.mem_singleton_self _)
  have wb : WfD T (.l 54) (.l b) := arg1 hwf (List.mem_singleton_self _)
  clear hwf
  have la := wa.len
  refine ⟨by simp, ?_⟩
  rw [Tryz.results39]
  repeat' first
    | (refine And.intro ?_ ?_)
    | (intro h)
  all_goals first
    | (show lowEdges _ = true; kernel_rfl) | (show logOk _ _ = true; kernel_rfl) | exact True.intro | exact rfl | exact Or.inr rfl | exact Or.inl rfl
    | exact res_no (ne_len ‹_›)
    | skip
  have hl := eq_len ‹_›
  refine awp_loop (Q := _) [0, 1, 5] [] (fun n s => ∃ i : Int, s = ([argS 54 a, argS 54 b, .val false [.i .i64 i]], []) ∧ 0 ≤ i ∧ i ≤ a.length ∧ n = a.length - i.toNat ∧ a.take i.toNat = b.take i.toNat) ?_ ?_
  · exact ⟨rfl, a.length - 0, _, rfl, by omega, by omega, rfl, rfl⟩
  rintro n s ⟨i, rfl, h1, h2, h3, h4⟩
  repeat' first
    | (refine And.intro ?_ ?_)
    | (intro h)
  all_goals first
    | (show lowEdges _ = true; kernel_rfl) | (show logOk _ _ = true; kernel_rfl) | exact True.intro | exact rfl | exact Or.inr rfl | exact Or.inl rfl
    | omega
    | exact of_decide_eq_true ‹_›
    | exact hl ▸ of_decide_eq_true ‹decide (i < (a.length : Int)) = true›
    | exact ⟨_, _, rfl⟩
    | exact res_yes (eq_of_takes hl h1 h2 ‹_› h4)
    | (have hi : i < (a.length : Int) := of_decide_eq_true ‹_›
       have wra : WfRow T [.i .i64, .i .i64, .i .i64, .l 3, .i .i64, .i .i64, .i .i64, .i .i64, .i .i64, .s, .s, .i .i64, .s, .s, .i .i64, .i .i64, .l 94] (a.getD i.toNat []) := wa.row rfl (by omega)
       have wrb : WfRow T [.i .i64, .i .i64, .i .i64, .l 3, .i .i64, .i .i64, .i .i64, .i .i64, .i .i64, .s, .s, .i .i64, .s, .s, .i .i64, .i .i64, .l 94] (b.getD i.toNat []) := wb.row rfl (by omega)
       first
         | exact ⟨_, _, wra, wrb, rfl⟩
         | exact ⟨_, _, wra, wrb, Nat.lt_of_lt_of_le (size_row (by omega)) (Nat.le_of_lt_succ hs), rfl⟩
         | (refine res_no ?_; rintro rfl; simp_all [eqDs, eqD, str_inj]; done)
         | (refine ⟨a.length - (i + 1).toNat, by omega, i + 1, ?_, by omega, by omega, rfl, takes_next h1 hi hl h4 (row_eq wra wrb ?_)⟩
            · exact congrArg (fun z => ([argS 54 a, argS 54 b, .val false [.i .i64 z]], [])) (wrap_next h1 hi la)
            · simp_all [eqDs, eqD, str_inj, csD, CV.d, rowC, ofD, argG, sub, List.zipIdx, List.range, List.range.loop]))
    | rfl
theorem ok23 : FOk Tryz.prog T 23 (eqG [.i .i64, .l 54]) := by
  refine fok (env := envL [(39, (eqS 54))]) (N := 16) tabT (envL_cons ok39 envL_nil) mixed Tryz.func23 rfl Tryz.call23 Tryz.ntmps23 ?_
  rintro args ⟨a, b, wa, wb, rfl⟩ _
  refine ⟨by simp, ?_⟩
  rw [Tryz.results23]
  repeat' first
    | (refine And.intro ?_ ?_)
    | (intro h)
  all_goals first
    | (show lowEdges _ = true; kernel_rfl) | (show logOk _ _ = true; kernel_rfl) | exact True.intro | exact rfl | exact Or.inr rfl | exact Or.inl rfl
    | exact ⟨_, _, rfl⟩
    | exact ⟨_, _, Nat.lt_of_lt_of_le (size_cell (by rw [wa.1]; decide)) (Nat.le_of_lt_succ hs), rfl⟩
    | exact ⟨sub a 0 1, sub b 0 1, wa.sub 0 1 (by decide), wb.sub 0 1 (by decide), rfl⟩ | exact ⟨sub a 1 1, sub b 1 1, wa.sub 1 1 (by decide), wb.sub 1 1 (by decide), rfl⟩
    | (exact res_no (fun he => by have e := row_eq wa wb he; subst e; simp_all))
    | (refine res_yes ?_; simp_all [eqDs, eqD, str_inj, csD, CV.d, rowC, ofD, argG, sub, List.zipIdx, List.range, List.range.loop]; done)
theorem ok8 : FOk Tryz.prog T 8 (eqS 36) := by
  refine fok (env := envL [(23, (eqG [.i .i64, .l 54]))]) (N := 27) tabT (envL_cons ok23 envL_nil) mixed Tryz.func8 rfl Tryz.call8 Tryz.ntmps8 ?_
  rintro args ⟨a, b, rfl⟩ hwf
  have wa : WfD T (.l 36) (.l a) := arg0 hwf (List.mem_singleton_self _)
  have wb : WfD T (.l 36) (.l b) := arg1 hwf (List.mem_singleton_self _)
  clear hwf
  have la := wa.len
  refine ⟨by simp, ?_⟩
  rw [Tryz.results8]
  repeat' first
    | (refine And.intro ?_ ?_)
    | (intro h)
  all_goals first
    | (show lowEdges _ = true; kernel_rfl) | (show logOk _ _ = true; kernel_rfl) | exact True.intro | exact rfl | exact Or.inr rfl | exact Or.inl rfl
    | exact res_no (ne_len ‹_›)
    | skip
  have hl := eq_len ‹_›
  refine awp_loop (Q := _) [0, 1, 5] [] (fun n s => ∃ i : Int, s = ([argS 36 a, argS 36 b, .val false [.i .i64 i]], []) ∧ 0 ≤ i ∧ i ≤ a.length ∧ n = a.length - i.toNat ∧ a.take i.toNat = b.take i.toNat) ?_ ?_
  · exact ⟨rfl, a.length - 0, _, rfl, by omega, by omega, rfl, rfl⟩
  rintro n s ⟨i, rfl, h1, h2, h3, h4⟩
  repeat' first
    | (refine And.intro ?_ ?_)
    | (intro h)
  all_goals first
    | (show lowEdges _ = true; kernel_rfl) | (show logOk _ _ = true; kernel_rfl) | exact True.intro | exact rfl | exact Or.inr rfl | exact Or.inl rfl
    | omega
    | exact of_decide_eq_true ‹_›
    | exact hl ▸ of_decide_eq_true ‹decide (i < (a.length : Int)) = true›
    | exact ⟨_, _, rfl⟩
    | exact res_yes (eq_of_takes hl h1 h2 ‹_› h4)
    | (have hi : i < (a.length : Int) := of_decide_eq_true ‹_›
       have wra : WfRow T [.i .i64, .l 54] (a.getD i.toNat []) := wa.row rfl (by omega)
       have wrb : WfRow T [.i .i64, .l 54] (b.getD i.toNat []) := wb.row rfl (by omega)
       first
         | exact ⟨_, _, wra, wrb, rfl⟩
         | exact ⟨_, _, wra, wrb, Nat.lt_of_lt_of_le (size_row (by omega)) (Nat.le_of_lt_succ hs), rfl⟩
         | (refine res_no ?_; rintro rfl; simp_all [eqDs, eqD, str_inj]; done)
         | (refine ⟨a.length - (i + 1).toNat, by omega, i + 1, ?_, by omega, by omega, rfl, takes_next h1 hi hl h4 (row_eq wra wrb ?_)⟩
            · exact congrArg (fun z => ([argS 36 a, argS 36 b, .val false [.i .i64 z]], [])) (wrap_next h1 hi la)
            · simp_all [eqDs, eqD, str_inj, csD, CV.d, rowC, ofD, argG, sub, List.zipIdx, List.range, List.range.loop]))
    | rfl
end Go.Proofs.YtaecbmjmcpdgdaaGreat.Ab
