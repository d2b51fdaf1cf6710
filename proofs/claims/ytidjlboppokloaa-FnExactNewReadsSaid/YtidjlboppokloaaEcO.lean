/- Copies, owned in depth: printed by a program of this claim. -/
import Derived.Test.YtidjlboppokloaaEw
import Derived.Test.YtidjlboppokloaaTsO
namespace Go.Proofs.Ytidjlboppokloaa.Ab
open Go.RowKit
set_option linter.unusedVariables false
set_option linter.unusedSimpArgs false
set_option maxRecDepth 100000
set_option maxHeartbeats 1000000
/-- laws.toStringS -/
theorem co121 : FOk Try.prog Td 121 (toSO 9 9) := by
  refine fok (env := envL []) (N := 22) tabTd envD_nil mixed Try.func121 rfl Try.call121 Try.ntmps121 ?_
  rintro args ⟨a, hw, rfl⟩ hwf
  have wa : WfD T (.l 9) (.l a) := arg0O hwf (List.mem_singleton_self _)
  clear hwf
  have la : a.length ≤ 1048576 := by omega
  refine ⟨by simp, ?_⟩
  rw [Try.results121]
  repeat' first
    | (refine And.intro ?_ ?_)
    | (intro h; cases h)
    | (intro h; rw [h])
    | (intro h)
  all_goals first
    | (show lowEdges _ = true; kernel_rfl) | (show logOk _ _ = true; kernel_rfl) | exact True.intro | exact rfl | exact Or.inr rfl | exact Or.inl rfl
    | rfl
    | (simp only [Ty.bytes]; omega)
    | omega
    | skip
  refine awp_loop (Q := _) [0, 3, 4] [] (fun n s => ∃ i : Int, s = ([argS 9 a, .val false [.sl true 9 (fill a ([.s].map zeroD) i.toNat)], .val false [.i .i64 i]], []) ∧ 0 ≤ i ∧ i ≤ a.length ∧ n = a.length - i.toNat) ?_ ?_
  · exact ⟨rfl, a.length - 0, 0, congrArg (fun z => (([argS 9 a, .val false [.sl true 9 z], .val false [.i .i64 0]], []) : Snap)) (fill_zero a _).symm, by omega, by omega, rfl⟩
  rintro n s ⟨i, rfl, h1, h2, h3⟩
  repeat' first
    | (refine And.intro ?_ ?_)
    | (intro h; cases h)
    | (intro h; rw [h])
    | (intro h)
  all_goals first
    | (show lowEdges _ = true; kernel_rfl) | (show logOk _ _ = true; kernel_rfl) | exact True.intro | exact rfl | exact Or.inr rfl | exact Or.inl rfl
    | omega
    | exact of_decide_eq_true ‹_›
    | (have := of_decide_eq_true ‹decide (i < (a.length : Int)) = true›; rw [fill_length (by omega)]; omega)
    | exact congrArg (fun z => [CV.sl true 9 z]) (fill_all h1 h2 ‹_›)
    | (have hi : i < (a.length : Int) := of_decide_eq_true ‹_›
       have hk : i.toNat < a.length := by omega
       have wr : WfRow T [.s] (a.getD i.toNat []) := wa.row rfl hk
       have hwr := wRow_le hk
       first
         | exact ⟨_, wr, by rw [wRow_rowC wr]; omega, rfl⟩
         | exact ⟨_, wr, Nat.lt_of_lt_of_le (size_row hk) (Nat.le_of_lt_succ hs), by rw [wRow_rowC wr]; omega, rfl⟩
         | (refine ⟨a.length - (i + 1).toNat, by omega, i + 1, ?_, by omega, by omega, rfl⟩
            have e1 := fill_next (z := ([.s].map zeroD)) h1 hi (by rw [csD_rowC wr, wr.1]; rfl) (csD_rowC wr)
            have e2 : IntKind.i64.wrap (i + 1) = i + 1 := wrap_next h1 hi (Nat.le_trans la (by decide))
            exact (congrArg (fun z => (([argS 9 a, .val false [.sl true 9 z], .val false [.i .i64 (IntKind.i64.wrap (i + 1))]], []) : Snap)) e1).trans (congrArg (fun z => (([argS 9 a, .val false [.sl true 9 (fill a ([.s].map zeroD) (i + 1).toNat)], .val false [.i .i64 z]], []) : Snap)) e2)))
/-- laws.toIntS -/
theorem co137 : FOk Try.prog Td 137 (toSO 3 3) := by
  refine fok (env := envL []) (N := 22) tabTd envD_nil mixed Try.func137 rfl Try.call137 Try.ntmps137 ?_
  rintro args ⟨a, hw, rfl⟩ hwf
  have wa : WfD T (.l 3) (.l a) := arg0O hwf (List.mem_singleton_self _)
  clear hwf
  have la : a.length ≤ 1048576 := by omega
  refine ⟨by simp, ?_⟩
  rw [Try.results137]
  repeat' first
    | (refine And.intro ?_ ?_)
    | (intro h; cases h)
    | (intro h; rw [h])
    | (intro h)
  all_goals first
    | (show lowEdges _ = true; kernel_rfl) | (show logOk _ _ = true; kernel_rfl) | exact True.intro | exact rfl | exact Or.inr rfl | exact Or.inl rfl
    | rfl
    | (simp only [Ty.bytes]; omega)
    | omega
    | skip
  refine awp_loop (Q := _) [0, 3, 4] [] (fun n s => ∃ i : Int, s = ([argS 3 a, .val false [.sl true 3 (fill a ([.i .i64].map zeroD) i.toNat)], .val false [.i .i64 i]], []) ∧ 0 ≤ i ∧ i ≤ a.length ∧ n = a.length - i.toNat) ?_ ?_
  · exact ⟨rfl, a.length - 0, 0, congrArg (fun z => (([argS 3 a, .val false [.sl true 3 z], .val false [.i .i64 0]], []) : Snap)) (fill_zero a _).symm, by omega, by omega, rfl⟩
  rintro n s ⟨i, rfl, h1, h2, h3⟩
  repeat' first
    | (refine And.intro ?_ ?_)
    | (intro h; cases h)
    | (intro h; rw [h])
    | (intro h)
  all_goals first
    | (show lowEdges _ = true; kernel_rfl) | (show logOk _ _ = true; kernel_rfl) | exact True.intro | exact rfl | exact Or.inr rfl | exact Or.inl rfl
    | omega
    | exact of_decide_eq_true ‹_›
    | (have := of_decide_eq_true ‹decide (i < (a.length : Int)) = true›; rw [fill_length (by omega)]; omega)
    | exact congrArg (fun z => [CV.sl true 3 z]) (fill_all h1 h2 ‹_›)
    | (have hi : i < (a.length : Int) := of_decide_eq_true ‹_›
       have hk : i.toNat < a.length := by omega
       have wr : WfRow T [.i .i64] (a.getD i.toNat []) := wa.row rfl hk
       have hwr := wRow_le hk
       first
         | exact ⟨_, wr, by rw [wRow_rowC wr]; omega, rfl⟩
         | exact ⟨_, wr, Nat.lt_of_lt_of_le (size_row hk) (Nat.le_of_lt_succ hs), by rw [wRow_rowC wr]; omega, rfl⟩
         | (refine ⟨a.length - (i + 1).toNat, by omega, i + 1, ?_, by omega, by omega, rfl⟩
            have e1 := fill_next (z := ([.i .i64].map zeroD)) h1 hi (by rw [csD_rowC wr, wr.1]; rfl) (csD_rowC wr)
            have e2 : IntKind.i64.wrap (i + 1) = i + 1 := wrap_next h1 hi (Nat.le_trans la (by decide))
            exact (congrArg (fun z => (([argS 3 a, .val false [.sl true 3 z], .val false [.i .i64 (IntKind.i64.wrap (i + 1))]], []) : Snap)) e1).trans (congrArg (fun z => (([argS 3 a, .val false [.sl true 3 (fill a ([.i .i64].map zeroD) (i + 1).toNat)], .val false [.i .i64 z]], []) : Snap)) e2)))
/-- laws.toOrigin -/
theorem co140 : FOk Try.prog Td 140 (toGO T [.i .i64, .i .i64] [.i .i64, .i .i64]) := by
  refine fok (env := envL []) (N := 11) tabTd envD_nil mixed Try.func140 rfl Try.call140 Try.ntmps140 ?_
  rintro args ⟨a, wa, hw, rfl⟩ hwf
  refine ⟨by simp, ?_⟩
  clear hwf
  rw [Try.results140]
  repeat' first
    | (refine And.intro ?_ ?_)
    | (intro h; cases h)
    | (intro h; rw [h])
    | (intro h)
  all_goals first
    | (show lowEdges _ = true; kernel_rfl) | (show logOk _ _ = true; kernel_rfl) | exact True.intro | exact rfl | exact Or.inr rfl | exact Or.inl rfl
    | rfl
    | exact ⟨sub a 0 1, wa.sub 0 1 (by decide), wSubC_le 0 1 wa (by decide) hw, rfl⟩
    | exact ⟨sub a 1 1, wa.sub 1 1 (by decide), wSubC_le 1 1 wa (by decide) hw, rfl⟩
    | rfl
/-- laws.toOriginS -/
theorem co138 : FOk Try.prog Td 138 (toSO 172 142) := by
  refine fok (env := envL [(140, (toGO T [.i .i64, .i .i64] [.i .i64, .i .i64]))]) (N := 23) tabTd (envD_cons co140 envD_nil) mixed Try.func138 rfl Try.call138 Try.ntmps138 ?_
  rintro args ⟨a, hw, rfl⟩ hwf
  have wa : WfD T (.l 172) (.l a) := arg0O hwf (List.mem_singleton_self _)
  clear hwf
  have la : a.length ≤ 1048576 := by omega
  refine ⟨by simp, ?_⟩
  rw [Try.results138]
  repeat' first
    | (refine And.intro ?_ ?_)
    | (intro h; cases h)
    | (intro h; rw [h])
    | (intro h)
  all_goals first
    | (show lowEdges _ = true; kernel_rfl) | (show logOk _ _ = true; kernel_rfl) | exact True.intro | exact rfl | exact Or.inr rfl | exact Or.inl rfl
    | rfl
    | (simp only [Ty.bytes]; omega)
    | omega
    | skip
  refine awp_loop (Q := _) [0, 3, 4] [] (fun n s => ∃ i : Int, s = ([argS 172 a, .val false [.sl true 142 (fill a ([.i .i64, .i .i64].map zeroD) i.toNat)], .val false [.i .i64 i]], []) ∧ 0 ≤ i ∧ i ≤ a.length ∧ n = a.length - i.toNat) ?_ ?_
  · exact ⟨rfl, a.length - 0, 0, congrArg (fun z => (([argS 172 a, .val false [.sl true 142 z], .val false [.i .i64 0]], []) : Snap)) (fill_zero a _).symm, by omega, by omega, rfl⟩
  rintro n s ⟨i, rfl, h1, h2, h3⟩
  repeat' first
    | (refine And.intro ?_ ?_)
    | (intro h; cases h)
    | (intro h; rw [h])
    | (intro h)
  all_goals first
    | (show lowEdges _ = true; kernel_rfl) | (show logOk _ _ = true; kernel_rfl) | exact True.intro | exact rfl | exact Or.inr rfl | exact Or.inl rfl
    | omega
    | exact of_decide_eq_true ‹_›
    | (have := of_decide_eq_true ‹decide (i < (a.length : Int)) = true›; rw [fill_length (by omega)]; omega)
    | exact congrArg (fun z => [CV.sl true 142 z]) (fill_all h1 h2 ‹_›)
    | (have hi : i < (a.length : Int) := of_decide_eq_true ‹_›
       have hk : i.toNat < a.length := by omega
       have wr : WfRow T [.i .i64, .i .i64] (a.getD i.toNat []) := wa.row rfl hk
       have hwr := wRow_le hk
       first
         | exact ⟨_, wr, by rw [wRow_rowC wr]; omega, rfl⟩
         | exact ⟨_, wr, Nat.lt_of_lt_of_le (size_row hk) (Nat.le_of_lt_succ hs), by rw [wRow_rowC wr]; omega, rfl⟩
         | (refine ⟨a.length - (i + 1).toNat, by omega, i + 1, ?_, by omega, by omega, rfl⟩
            have e1 := fill_next (z := ([.i .i64, .i .i64].map zeroD)) h1 hi (by rw [csD_rowC wr, wr.1]; rfl) (csD_rowC wr)
            have e2 : IntKind.i64.wrap (i + 1) = i + 1 := wrap_next h1 hi (Nat.le_trans la (by decide))
            exact (congrArg (fun z => (([argS 172 a, .val false [.sl true 142 z], .val false [.i .i64 (IntKind.i64.wrap (i + 1))]], []) : Snap)) e1).trans (congrArg (fun z => (([argS 172 a, .val false [.sl true 142 (fill a ([.i .i64, .i .i64].map zeroD) (i + 1).toNat)], .val false [.i .i64 z]], []) : Snap)) e2)))
/-- laws.toRow -/
theorem co131 : FOk Try.prog Td 131 (toGO T [.l 3, .l 172] [.l 3, .l 142]) := by
  refine fok (env := envL [(137, (toSO 3 3)), (138, (toSO 172 142))]) (N := 13) tabTd (envD_cons co137 (envD_cons co138 envD_nil)) mixed Try.func131 rfl Try.call131 Try.ntmps131 ?_
  rintro args ⟨a, wa, hw, rfl⟩ hwf
  refine ⟨by simp, ?_⟩
  clear hwf
  rw [Try.results131]
  repeat' first
    | (refine And.intro ?_ ?_)
    | (intro h; cases h)
    | (intro h; rw [h])
    | (intro h)
  all_goals first
    | (show lowEdges _ = true; kernel_rfl) | (show logOk _ _ = true; kernel_rfl) | exact True.intro | exact rfl | exact Or.inr rfl | exact Or.inl rfl
    | exact ⟨_, wCellC_le wa hw 0, rfl⟩
    | exact ⟨_, wCellC_le wa hw 1, rfl⟩
    | exact ⟨_, Nat.lt_of_lt_of_le (size_cell (by rw [wa.1]; decide)) (Nat.le_of_lt_succ hs), wCellC_le wa hw 0, rfl⟩
    | exact ⟨_, Nat.lt_of_lt_of_le (size_cell (by rw [wa.1]; decide)) (Nat.le_of_lt_succ hs), wCellC_le wa hw 1, rfl⟩
    | exact ⟨sub a 0 1, wa.sub 0 1 (by decide), wSubC_le 0 1 wa (by decide) hw, rfl⟩
    | exact ⟨sub a 1 1, wa.sub 1 1 (by decide), wSubC_le 1 1 wa (by decide) hw, rfl⟩
    | rfl
/-- laws.toRowS -/
theorem co122 : FOk Try.prog Td 122 (toSO 162 114) := by
  refine fok (env := envL [(131, (toGO T [.l 3, .l 172] [.l 3, .l 142]))]) (N := 23) tabTd (envD_cons co131 envD_nil) mixed Try.func122 rfl Try.call122 Try.ntmps122 ?_
  rintro args ⟨a, hw, rfl⟩ hwf
  have wa : WfD T (.l 162) (.l a) := arg0O hwf (List.mem_singleton_self _)
  clear hwf
  have la : a.length ≤ 1048576 := by omega
  refine ⟨by simp, ?_⟩
  rw [Try.results122]
  repeat' first
    | (refine And.intro ?_ ?_)
    | (intro h; cases h)
    | (intro h; rw [h])
    | (intro h)
  all_goals first
    | (show lowEdges _ = true; kernel_rfl) | (show logOk _ _ = true; kernel_rfl) | exact True.intro | exact rfl | exact Or.inr rfl | exact Or.inl rfl
    | rfl
    | (simp only [Ty.bytes]; omega)
    | omega
    | skip
  refine awp_loop (Q := _) [0, 3, 4] [] (fun n s => ∃ i : Int, s = ([argS 162 a, .val false [.sl true 114 (fill a ([.l 3, .l 142].map zeroD) i.toNat)], .val false [.i .i64 i]], []) ∧ 0 ≤ i ∧ i ≤ a.length ∧ n = a.length - i.toNat) ?_ ?_
  · exact ⟨rfl, a.length - 0, 0, congrArg (fun z => (([argS 162 a, .val false [.sl true 114 z], .val false [.i .i64 0]], []) : Snap)) (fill_zero a _).symm, by omega, by omega, rfl⟩
  rintro n s ⟨i, rfl, h1, h2, h3⟩
  repeat' first
    | (refine And.intro ?_ ?_)
    | (intro h; cases h)
    | (intro h; rw [h])
    | (intro h)
  all_goals first
    | (show lowEdges _ = true; kernel_rfl) | (show logOk _ _ = true; kernel_rfl) | exact True.intro | exact rfl | exact Or.inr rfl | exact Or.inl rfl
    | omega
    | exact of_decide_eq_true ‹_›
    | (have := of_decide_eq_true ‹decide (i < (a.length : Int)) = true›; rw [fill_length (by omega)]; omega)
    | exact congrArg (fun z => [CV.sl true 114 z]) (fill_all h1 h2 ‹_›)
    | (have hi : i < (a.length : Int) := of_decide_eq_true ‹_›
       have hk : i.toNat < a.length := by omega
       have wr : WfRow T [.l 3, .l 172] (a.getD i.toNat []) := wa.row rfl hk
       have hwr := wRow_le hk
       first
         | exact ⟨_, wr, by rw [wRow_rowC wr]; omega, rfl⟩
         | exact ⟨_, wr, Nat.lt_of_lt_of_le (size_row hk) (Nat.le_of_lt_succ hs), by rw [wRow_rowC wr]; omega, rfl⟩
         | (refine ⟨a.length - (i + 1).toNat, by omega, i + 1, ?_, by omega, by omega, rfl⟩
            have e1 := fill_next (z := ([.l 3, .l 142].map zeroD)) h1 hi (by rw [csD_rowC wr, wr.1]; rfl) (csD_rowC wr)
            have e2 : IntKind.i64.wrap (i + 1) = i + 1 := wrap_next h1 hi (Nat.le_trans la (by decide))
            exact (congrArg (fun z => (([argS 162 a, .val false [.sl true 114 z], .val false [.i .i64 (IntKind.i64.wrap (i + 1))]], []) : Snap)) e1).trans (congrArg (fun z => (([argS 162 a, .val false [.sl true 114 (fill a ([.l 3, .l 142].map zeroD) (i + 1).toNat)], .val false [.i .i64 z]], []) : Snap)) e2)))
/-- laws.toValue -/
theorem cstep105 (n : Nat) (hn : FOk Try.prog Td 120 (toSOn 108 60 n)) : FOk Try.prog Td 105 (toGOn T [.i .i64, .i .i64, .i .i64, .s, .l 108, .l 9, .l 162] [.i .i64, .i .i64, .i .i64, .s, .l 60, .l 9, .l 114] (n + 1)) := by
  refine fok (env := envL [(120, (toSOn 108 60 n)), (121, (toSO 9 9)), (122, (toSO 162 114))]) (N := 29) tabTd (envD_cons hn (envD_cons co121 (envD_cons co122 envD_nil))) mixed Try.func105 rfl Try.call105 Try.ntmps105 ?_
  rintro args ⟨a, wa, hs, hw, rfl⟩ hwf
  refine ⟨by simp, ?_⟩
  clear hwf
  rw [Try.results105]
  repeat' first
    | (refine And.intro ?_ ?_)
    | (intro h; cases h)
    | (intro h; rw [h])
    | (intro h)
  all_goals first
    | (show lowEdges _ = true; kernel_rfl) | (show logOk _ _ = true; kernel_rfl) | exact True.intro | exact rfl | exact Or.inr rfl | exact Or.inl rfl
    | exact ⟨_, wCellC_le wa hw 4, rfl⟩
    | exact ⟨_, wCellC_le wa hw 5, rfl⟩
    | exact ⟨_, wCellC_le wa hw 6, rfl⟩
    | exact ⟨_, Nat.lt_of_lt_of_le (size_cell (by rw [wa.1]; decide)) (Nat.le_of_lt_succ hs), wCellC_le wa hw 4, rfl⟩
    | exact ⟨_, Nat.lt_of_lt_of_le (size_cell (by rw [wa.1]; decide)) (Nat.le_of_lt_succ hs), wCellC_le wa hw 5, rfl⟩
    | exact ⟨_, Nat.lt_of_lt_of_le (size_cell (by rw [wa.1]; decide)) (Nat.le_of_lt_succ hs), wCellC_le wa hw 6, rfl⟩
    | exact ⟨sub a 0 1, wa.sub 0 1 (by decide), wSubC_le 0 1 wa (by decide) hw, rfl⟩
    | exact ⟨sub a 1 1, wa.sub 1 1 (by decide), wSubC_le 1 1 wa (by decide) hw, rfl⟩
    | exact ⟨sub a 2 1, wa.sub 2 1 (by decide), wSubC_le 2 1 wa (by decide) hw, rfl⟩
    | exact ⟨sub a 3 1, wa.sub 3 1 (by decide), wSubC_le 3 1 wa (by decide) hw, rfl⟩
    | exact ⟨sub a 4 1, wa.sub 4 1 (by decide), wSubC_le 4 1 wa (by decide) hw, rfl⟩
    | exact ⟨sub a 5 1, wa.sub 5 1 (by decide), wSubC_le 5 1 wa (by decide) hw, rfl⟩
    | exact ⟨sub a 6 1, wa.sub 6 1 (by decide), wSubC_le 6 1 wa (by decide) hw, rfl⟩
    | rfl
/-- laws.toValueS -/
theorem cstep120 (n : Nat) (hn : FOk Try.prog Td 105 (toGOn T [.i .i64, .i .i64, .i .i64, .s, .l 108, .l 9, .l 162] [.i .i64, .i .i64, .i .i64, .s, .l 60, .l 9, .l 114] n)) : FOk Try.prog Td 120 (toSOn 108 60 (n + 1)) := by
  refine fok (env := envL [(105, (toGOn T [.i .i64, .i .i64, .i .i64, .s, .l 108, .l 9, .l 162] [.i .i64, .i .i64, .i .i64, .s, .l 60, .l 9, .l 114] n))]) (N := 23) tabTd (envD_cons hn envD_nil) mixed Try.func120 rfl Try.call120 Try.ntmps120 ?_
  rintro args ⟨a, hs, hw, rfl⟩ hwf
  have wa : WfD T (.l 108) (.l a) := arg0O hwf (List.mem_singleton_self _)
  clear hwf
  have la : a.length ≤ 1048576 := by omega
  refine ⟨by simp, ?_⟩
  rw [Try.results120]
  repeat' first
    | (refine And.intro ?_ ?_)
    | (intro h; cases h)
    | (intro h; rw [h])
    | (intro h)
  all_goals first
    | (show lowEdges _ = true; kernel_rfl) | (show logOk _ _ = true; kernel_rfl) | exact True.intro | exact rfl | exact Or.inr rfl | exact Or.inl rfl
    | rfl
    | (simp only [Ty.bytes]; omega)
    | omega
    | skip
  refine awp_loop (Q := _) [0, 3, 4] [] (fun n s => ∃ i : Int, s = ([argS 108 a, .val false [.sl true 60 (fill a ([.i .i64, .i .i64, .i .i64, .s, .l 60, .l 9, .l 114].map zeroD) i.toNat)], .val false [.i .i64 i]], []) ∧ 0 ≤ i ∧ i ≤ a.length ∧ n = a.length - i.toNat) ?_ ?_
  · exact ⟨rfl, a.length - 0, 0, congrArg (fun z => (([argS 108 a, .val false [.sl true 60 z], .val false [.i .i64 0]], []) : Snap)) (fill_zero a _).symm, by omega, by omega, rfl⟩
  rintro n s ⟨i, rfl, h1, h2, h3⟩
  repeat' first
    | (refine And.intro ?_ ?_)
    | (intro h; cases h)
    | (intro h; rw [h])
    | (intro h)
  all_goals first
    | (show lowEdges _ = true; kernel_rfl) | (show logOk _ _ = true; kernel_rfl) | exact True.intro | exact rfl | exact Or.inr rfl | exact Or.inl rfl
    | omega
    | exact of_decide_eq_true ‹_›
    | (have := of_decide_eq_true ‹decide (i < (a.length : Int)) = true›; rw [fill_length (by omega)]; omega)
    | exact congrArg (fun z => [CV.sl true 60 z]) (fill_all h1 h2 ‹_›)
    | (have hi : i < (a.length : Int) := of_decide_eq_true ‹_›
       have hk : i.toNat < a.length := by omega
       have wr : WfRow T [.i .i64, .i .i64, .i .i64, .s, .l 108, .l 9, .l 162] (a.getD i.toNat []) := wa.row rfl hk
       have hwr := wRow_le hk
       first
         | exact ⟨_, wr, by rw [wRow_rowC wr]; omega, rfl⟩
         | exact ⟨_, wr, Nat.lt_of_lt_of_le (size_row hk) (Nat.le_of_lt_succ hs), by rw [wRow_rowC wr]; omega, rfl⟩
         | (refine ⟨a.length - (i + 1).toNat, by omega, i + 1, ?_, by omega, by omega, rfl⟩
            have e1 := fill_next (z := ([.i .i64, .i .i64, .i .i64, .s, .l 60, .l 9, .l 114].map zeroD)) h1 hi (by rw [csD_rowC wr, wr.1]; rfl) (csD_rowC wr)
            have e2 : IntKind.i64.wrap (i + 1) = i + 1 := wrap_next h1 hi (Nat.le_trans la (by decide))
            exact (congrArg (fun z => (([argS 108 a, .val false [.sl true 60 z], .val false [.i .i64 (IntKind.i64.wrap (i + 1))]], []) : Snap)) e1).trans (congrArg (fun z => (([argS 108 a, .val false [.sl true 60 (fill a ([.i .i64, .i .i64, .i .i64, .s, .l 60, .l 9, .l 114].map zeroD) (i + 1).toNat)], .val false [.i .i64 z]], []) : Snap)) e2)))
theorem czero105 : FOk Try.prog Td 105 (toGOn T [.i .i64, .i .i64, .i .i64, .s, .l 108, .l 9, .l 162] [.i .i64, .i .i64, .i .i64, .s, .l 60, .l 9, .l 114] 0) := by
  refine fok (env := envL []) (N := 29) tabTd envD_nil mixed Try.func105 rfl Try.call105 Try.ntmps105 ?_
  rintro args ⟨a, wa, hs, hw, rfl⟩ _
  exact absurd hs (Nat.not_lt_zero _)
theorem czero120 : FOk Try.prog Td 120 (toSOn 108 60 0) := by
  refine fok (env := envL []) (N := 23) tabTd envD_nil mixed Try.func120 rfl Try.call120 Try.ntmps120 ?_
  rintro args ⟨a, hs, hw, rfl⟩ _
  exact absurd hs (Nat.not_lt_zero _)
theorem cboth105 (n : Nat) : FOk Try.prog Td 105 (toGOn T [.i .i64, .i .i64, .i .i64, .s, .l 108, .l 9, .l 162] [.i .i64, .i .i64, .i .i64, .s, .l 60, .l 9, .l 114] n) ∧ FOk Try.prog Td 120 (toSOn 108 60 n) := by
  induction n with
  | zero => exact ⟨czero105, czero120⟩
  | succ n ih => exact ⟨cstep105 n ih.2, cstep120 n ih.1⟩
theorem co105 : FOk Try.prog Td 105 (toGO T [.i .i64, .i .i64, .i .i64, .s, .l 108, .l 9, .l 162] [.i .i64, .i .i64, .i .i64, .s, .l 60, .l 9, .l 114]) := FOk.liftO (s := fun n => (toGOn T [.i .i64, .i .i64, .i .i64, .s, .l 108, .l 9, .l 162] [.i .i64, .i .i64, .i .i64, .s, .l 60, .l 9, .l 114] n)) (fun n => (cboth105 n).1) (fun args ⟨a, wa, hw, h⟩ => ⟨SizeOf.sizeOf a + 1, a, wa, Nat.lt_succ_self _, hw, h⟩) (fun n => rfl)
theorem co120 : FOk Try.prog Td 120 (toSO 108 60) := FOk.liftO (s := fun n => (toSOn 108 60 n)) (fun n => (cboth105 n).2) (fun args ⟨a, hw, h⟩ => ⟨SizeOf.sizeOf a + 1, a, Nat.lt_succ_self _, hw, h⟩) (fun n => rfl)
/-- laws.toRead -/
theorem co79 : FOk Try.prog Td 79 (toGO T [.i .i64, .i .i64, .i .i64, .s, .i .i64, .i .i64, .i .i64, .s, .l 108, .l 9, .l 162] [.i .i64, .i .i64, .i .i64, .s, .i .i64, .i .i64, .i .i64, .s, .l 60, .l 9, .l 114]) := by
  refine fok (env := envL [(105, (toGO T [.i .i64, .i .i64, .i .i64, .s, .l 108, .l 9, .l 162] [.i .i64, .i .i64, .i .i64, .s, .l 60, .l 9, .l 114]))]) (N := 21) tabTd (envD_cons co105 envD_nil) mixed Try.func79 rfl Try.call79 Try.ntmps79 ?_
  rintro args ⟨a, wa, hw, rfl⟩ hwf
  refine ⟨by simp, ?_⟩
  clear hwf
  rw [Try.results79]
  repeat' first
    | (refine And.intro ?_ ?_)
    | (intro h; cases h)
    | (intro h; rw [h])
    | (intro h)
  all_goals first
    | (show lowEdges _ = true; kernel_rfl) | (show logOk _ _ = true; kernel_rfl) | exact True.intro | exact rfl | exact Or.inr rfl | exact Or.inl rfl
    | exact ⟨_, wCellC_le wa hw 8, rfl⟩
    | exact ⟨_, wCellC_le wa hw 9, rfl⟩
    | exact ⟨_, wCellC_le wa hw 10, rfl⟩
    | exact ⟨_, Nat.lt_of_lt_of_le (size_cell (by rw [wa.1]; decide)) (Nat.le_of_lt_succ hs), wCellC_le wa hw 8, rfl⟩
    | exact ⟨_, Nat.lt_of_lt_of_le (size_cell (by rw [wa.1]; decide)) (Nat.le_of_lt_succ hs), wCellC_le wa hw 9, rfl⟩
    | exact ⟨_, Nat.lt_of_lt_of_le (size_cell (by rw [wa.1]; decide)) (Nat.le_of_lt_succ hs), wCellC_le wa hw 10, rfl⟩
    | exact ⟨sub a 4 7, wa.sub 4 7 (by decide), wSubC_le 4 7 wa (by decide) hw, rfl⟩
    | exact ⟨sub a 0 1, wa.sub 0 1 (by decide), wSubC_le 0 1 wa (by decide) hw, rfl⟩
    | exact ⟨sub a 1 1, wa.sub 1 1 (by decide), wSubC_le 1 1 wa (by decide) hw, rfl⟩
    | exact ⟨sub a 2 1, wa.sub 2 1 (by decide), wSubC_le 2 1 wa (by decide) hw, rfl⟩
    | exact ⟨sub a 3 1, wa.sub 3 1 (by decide), wSubC_le 3 1 wa (by decide) hw, rfl⟩
    | rfl
/-- laws.toReadS -/
theorem co43 : FOk Try.prog Td 43 (toSO 110 64) := by
  refine fok (env := envL [(79, (toGO T [.i .i64, .i .i64, .i .i64, .s, .i .i64, .i .i64, .i .i64, .s, .l 108, .l 9, .l 162] [.i .i64, .i .i64, .i .i64, .s, .i .i64, .i .i64, .i .i64, .s, .l 60, .l 9, .l 114]))]) (N := 23) tabTd (envD_cons co79 envD_nil) mixed Try.func43 rfl Try.call43 Try.ntmps43 ?_
  rintro args ⟨a, hw, rfl⟩ hwf
  have wa : WfD T (.l 110) (.l a) := arg0O hwf (List.mem_singleton_self _)
  clear hwf
  have la : a.length ≤ 1048576 := by omega
  refine ⟨by simp, ?_⟩
  rw [Try.results43]
  repeat' first
    | (refine And.intro ?_ ?_)
    | (intro h; cases h)
    | (intro h; rw [h])
    | (intro h)
  all_goals first
    | (show lowEdges _ = true; kernel_rfl) | (show logOk _ _ = true; kernel_rfl) | exact True.intro | exact rfl | exact Or.inr rfl | exact Or.inl rfl
    | rfl
    | (simp only [Ty.bytes]; omega)
    | omega
    | skip
  refine awp_loop (Q := _) [0, 3, 4] [] (fun n s => ∃ i : Int, s = ([argS 110 a, .val false [.sl true 64 (fill a ([.i .i64, .i .i64, .i .i64, .s, .i .i64, .i .i64, .i .i64, .s, .l 60, .l 9, .l 114].map zeroD) i.toNat)], .val false [.i .i64 i]], []) ∧ 0 ≤ i ∧ i ≤ a.length ∧ n = a.length - i.toNat) ?_ ?_
  · exact ⟨rfl, a.length - 0, 0, congrArg (fun z => (([argS 110 a, .val false [.sl true 64 z], .val false [.i .i64 0]], []) : Snap)) (fill_zero a _).symm, by omega, by omega, rfl⟩
  rintro n s ⟨i, rfl, h1, h2, h3⟩
  repeat' first
    | (refine And.intro ?_ ?_)
    | (intro h; cases h)
    | (intro h; rw [h])
    | (intro h)
  all_goals first
    | (show lowEdges _ = true; kernel_rfl) | (show logOk _ _ = true; kernel_rfl) | exact True.intro | exact rfl | exact Or.inr rfl | exact Or.inl rfl
    | omega
    | exact of_decide_eq_true ‹_›
    | (have := of_decide_eq_true ‹decide (i < (a.length : Int)) = true›; rw [fill_length (by omega)]; omega)
    | exact congrArg (fun z => [CV.sl true 64 z]) (fill_all h1 h2 ‹_›)
    | (have hi : i < (a.length : Int) := of_decide_eq_true ‹_›
       have hk : i.toNat < a.length := by omega
       have wr : WfRow T [.i .i64, .i .i64, .i .i64, .s, .i .i64, .i .i64, .i .i64, .s, .l 108, .l 9, .l 162] (a.getD i.toNat []) := wa.row rfl hk
       have hwr := wRow_le hk
       first
         | exact ⟨_, wr, by rw [wRow_rowC wr]; omega, rfl⟩
         | exact ⟨_, wr, Nat.lt_of_lt_of_le (size_row hk) (Nat.le_of_lt_succ hs), by rw [wRow_rowC wr]; omega, rfl⟩
         | (refine ⟨a.length - (i + 1).toNat, by omega, i + 1, ?_, by omega, by omega, rfl⟩
            have e1 := fill_next (z := ([.i .i64, .i .i64, .i .i64, .s, .i .i64, .i .i64, .i .i64, .s, .l 60, .l 9, .l 114].map zeroD)) h1 hi (by rw [csD_rowC wr, wr.1]; rfl) (csD_rowC wr)
            have e2 : IntKind.i64.wrap (i + 1) = i + 1 := wrap_next h1 hi (Nat.le_trans la (by decide))
            exact (congrArg (fun z => (([argS 110 a, .val false [.sl true 64 z], .val false [.i .i64 (IntKind.i64.wrap (i + 1))]], []) : Snap)) e1).trans (congrArg (fun z => (([argS 110 a, .val false [.sl true 64 (fill a ([.i .i64, .i .i64, .i .i64, .s, .i .i64, .i .i64, .i .i64, .s, .l 60, .l 9, .l 114].map zeroD) (i + 1).toNat)], .val false [.i .i64 z]], []) : Snap)) e2)))
/-- laws.toTape -/
theorem co21 : FOk Try.prog Td 21 (toGO T [.i .i64, .i .i64, .l 110] [.i .i64, .i .i64, .l 64]) := by
  refine fok (env := envL [(43, (toSO 110 64))]) (N := 15) tabTd (envD_cons co43 envD_nil) mixed Try.func21 rfl Try.call21 Try.ntmps21 ?_
  rintro args ⟨a, wa, hw, rfl⟩ hwf
  refine ⟨by simp, ?_⟩
  clear hwf
  rw [Try.results21]
  repeat' first
    | (refine And.intro ?_ ?_)
    | (intro h; cases h)
    | (intro h; rw [h])
    | (intro h)
  all_goals first
    | (show lowEdges _ = true; kernel_rfl) | (show logOk _ _ = true; kernel_rfl) | exact True.intro | exact rfl | exact Or.inr rfl | exact Or.inl rfl
    | exact ⟨_, wCellC_le wa hw 2, rfl⟩
    | exact ⟨_, Nat.lt_of_lt_of_le (size_cell (by rw [wa.1]; decide)) (Nat.le_of_lt_succ hs), wCellC_le wa hw 2, rfl⟩
    | exact ⟨sub a 0 1, wa.sub 0 1 (by decide), wSubC_le 0 1 wa (by decide) hw, rfl⟩
    | exact ⟨sub a 1 1, wa.sub 1 1 (by decide), wSubC_le 1 1 wa (by decide) hw, rfl⟩
    | exact ⟨sub a 2 1, wa.sub 2 1 (by decide), wSubC_le 2 1 wa (by decide) hw, rfl⟩
    | rfl
/-- laws.toTapeS -/
theorem co7 : FOk Try.prog Td 7 (toSO 51 54) := by
  refine fok (env := envL [(21, (toGO T [.i .i64, .i .i64, .l 110] [.i .i64, .i .i64, .l 64]))]) (N := 23) tabTd (envD_cons co21 envD_nil) mixed Try.func7 rfl Try.call7 Try.ntmps7 ?_
  rintro args ⟨a, hw, rfl⟩ hwf
  have wa : WfD T (.l 51) (.l a) := arg0O hwf (List.mem_singleton_self _)
  clear hwf
  have la : a.length ≤ 1048576 := by omega
  refine ⟨by simp, ?_⟩
  rw [Try.results7]
  repeat' first
    | (refine And.intro ?_ ?_)
    | (intro h; cases h)
    | (intro h; rw [h])
    | (intro h)
  all_goals first
    | (show lowEdges _ = true; kernel_rfl) | (show logOk _ _ = true; kernel_rfl) | exact True.intro | exact rfl | exact Or.inr rfl | exact Or.inl rfl
    | rfl
    | (simp only [Ty.bytes]; omega)
    | omega
    | skip
  refine awp_loop (Q := _) [0, 3, 4] [] (fun n s => ∃ i : Int, s = ([argS 51 a, .val false [.sl true 54 (fill a ([.i .i64, .i .i64, .l 64].map zeroD) i.toNat)], .val false [.i .i64 i]], []) ∧ 0 ≤ i ∧ i ≤ a.length ∧ n = a.length - i.toNat) ?_ ?_
  · exact ⟨rfl, a.length - 0, 0, congrArg (fun z => (([argS 51 a, .val false [.sl true 54 z], .val false [.i .i64 0]], []) : Snap)) (fill_zero a _).symm, by omega, by omega, rfl⟩
  rintro n s ⟨i, rfl, h1, h2, h3⟩
  repeat' first
    | (refine And.intro ?_ ?_)
    | (intro h; cases h)
    | (intro h; rw [h])
    | (intro h)
  all_goals first
    | (show lowEdges _ = true; kernel_rfl) | (show logOk _ _ = true; kernel_rfl) | exact True.intro | exact rfl | exact Or.inr rfl | exact Or.inl rfl
    | omega
    | exact of_decide_eq_true ‹_›
    | (have := of_decide_eq_true ‹decide (i < (a.length : Int)) = true›; rw [fill_length (by omega)]; omega)
    | exact congrArg (fun z => [CV.sl true 54 z]) (fill_all h1 h2 ‹_›)
    | (have hi : i < (a.length : Int) := of_decide_eq_true ‹_›
       have hk : i.toNat < a.length := by omega
       have wr : WfRow T [.i .i64, .i .i64, .l 110] (a.getD i.toNat []) := wa.row rfl hk
       have hwr := wRow_le hk
       first
         | exact ⟨_, wr, by rw [wRow_rowC wr]; omega, rfl⟩
         | exact ⟨_, wr, Nat.lt_of_lt_of_le (size_row hk) (Nat.le_of_lt_succ hs), by rw [wRow_rowC wr]; omega, rfl⟩
         | (refine ⟨a.length - (i + 1).toNat, by omega, i + 1, ?_, by omega, by omega, rfl⟩
            have e1 := fill_next (z := ([.i .i64, .i .i64, .l 64].map zeroD)) h1 hi (by rw [csD_rowC wr, wr.1]; rfl) (csD_rowC wr)
            have e2 : IntKind.i64.wrap (i + 1) = i + 1 := wrap_next h1 hi (Nat.le_trans la (by decide))
            exact (congrArg (fun z => (([argS 51 a, .val false [.sl true 54 z], .val false [.i .i64 (IntKind.i64.wrap (i + 1))]], []) : Snap)) e1).trans (congrArg (fun z => (([argS 51 a, .val false [.sl true 54 (fill a ([.i .i64, .i .i64, .l 64].map zeroD) (i + 1).toNat)], .val false [.i .i64 z]], []) : Snap)) e2)))
end Go.Proofs.Ytidjlboppokloaa.Ab

