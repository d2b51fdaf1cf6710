/- Copies, owned in depth: printed by a program of this claim. -/
import Derived.Test.YtaecbmjmcpdgdaaGreatCEd
import Derived.Test.YtaecbmjmcpdgdaaGreatCMt
namespace Go.Proofs.YtaecbmjmcpdgdaaGreat.Ab
open Go.RowKit
set_option linter.unusedVariables false
set_option linter.unusedSimpArgs false
set_option maxRecDepth 100000
set_option maxHeartbeats 1000000
theorem co65 : FOk Tryz.prog Td 65 (toSO 3 3) := by
  refine fok (env := envL []) (N := 22) tabTd envD_nil mixed Tryz.func65 rfl Tryz.call65 Tryz.ntmps65 ?_
  rintro args ⟨a, hw, rfl⟩ hwf
  have wa : WfD T (.l 3) (.l a) := arg0O hwf (List.mem_singleton_self _)
  clear hwf
  have la : a.length ≤ 1048576 := by omega
  refine ⟨by simp, ?_⟩
  rw [Tryz.results65]
  repeat' first
    | (refine And.intro ?_ ?_)
    | (intro h; cases h)
    | (intro h; rw [h])
    | (intro h)
  all_goals first
    | (show lowEdges _ = true; kernel_rfl) | (show logOk _ _ = true; kernel_rfl) | exact True.intro | exact rfl | exact Or.inr rfl | exact Or.inl rfl
    | rfl
    | (simp only [Ty.bytes]; omega)
    | omega
    | skip
  refine awp_loop (Q := _) [0, 3, 4] [] (fun n s => ∃ i : Int, s = ([argS 3 a, .val false [.sl true 3 (fill a ([.i .i64].map zeroD) i.toNat)], .val false [.i .i64 i]], []) ∧ 0 ≤ i ∧ i ≤ a.length ∧ n = a.length - i.toNat) ?_ ?_
  · exact ⟨rfl, a.length - 0, 0, congrArg (fun z => (([argS 3 a, .val false [.sl true 3 z], .val false [.i .i64 0]], []) : Snap)) (fill_zero a _).symm, by omega, by omega, rfl⟩
  rintro n s ⟨i, rfl, h1, h2, h3⟩
  repeat' first
    | (refine And.intro ?_ ?_)
    | (intro h; cases h)
    | (intro h; rw [h])
    | (intro h)
  all_goals first
    | (show lowEdges _ = true; kernel_rfl) | (show logOk _ _ = true; kernel_rfl) | exact True.intro | exact rfl | exact Or.inr rfl | exact Or.inl rfl
    | omega
    | exact of_decide_eq_true ‹_›
    | (have := of_decide_eq_true ‹decide (i < (a.length : Int)) = true›; rw [fill_length (by omega)]; omega)
    | exact congrArg (fun z => [CV.sl true 3 z]) (fill_all h1 h2 ‹_›)
    | (have hi : i < (a.length : Int) := of_decide_eq_true ‹_›
       have hk : i.toNat < a.length := by omega
       have wr : WfRow T [.i .i64] (a.getD i.toNat []) := wa.row rfl hk
       have hwr := wRow_le hk
       first
         | exact ⟨_, wr, by rw [wRow_rowC wr]; omega, rfl⟩
         | exact ⟨_, wr, Nat.lt_of_lt_of_le (size_row hk) (Nat.le_of_lt_succ hs), by rw [wRow_rowC wr]; omega, rfl⟩
         | (refine ⟨a.length - (i + 1).toNat, by omega, i + 1, ?_, by omega, by omega, rfl⟩
            have e1 := fill_next (z := ([.i .i64].map zeroD)) h1 hi (by rw [csD_rowC wr, wr.1]; rfl) (csD_rowC wr)
            have e2 : IntKind.i64.wrap (i + 1) = i + 1 := wrap_next h1 hi (Nat.le_trans la (by decide))
            exact (congrArg (fun z => (([argS 3 a, .val false [.sl true 3 z], .val false [.i .i64 (IntKind.i64.wrap (i + 1))]], []) : Snap)) e1).trans (congrArg (fun z => (([argS 3 a, .val false [.sl true 3 (fill a ([.i .i64].map zeroD) (i + 1).toNat)], .val false [.i .i64 z]], []) : Snap)) e2)))
theorem co88 : FOk Tryz.prog Td 88 (toGO T [.i .i64, .i .i64, .i .i64, .s, .s, .i .i64] [.i .i64, .i .i64, .i .i64, .s, .s, .i .i64]) := by
  refine fok (env := envL []) (N := 23) tabTd envD_nil mixed Tryz.func88 rfl Tryz.call88 Tryz.ntmps88 ?_
  rintro args ⟨a, wa, hw, rfl⟩ hwf
  refine ⟨by simp, ?_⟩
  clear hwf
  rw [Tryz.results88]
  repeat' first
    | (refine And.intro ?_ ?_)
    | (intro h; cases h)
    | (intro h; rw [h])
    | (intro h)
  all_goals first
    | (show lowEdges _ = true; kernel_rfl) | (show logOk _ _ = true; kernel_rfl) | exact True.intro | exact rfl | exact Or.inr rfl | exact Or.inl rfl
    | rfl
    | exact ⟨sub a 0 1, wa.sub 0 1 (by decide), wSubC_le 0 1 wa (by decide) hw, rfl⟩
    | exact ⟨sub a 1 1, wa.sub 1 1 (by decide), wSubC_le 1 1 wa (by decide) hw, rfl⟩
    | exact ⟨sub a 2 1, wa.sub 2 1 (by decide), wSubC_le 2 1 wa (by decide) hw, rfl⟩
    | exact ⟨sub a 3 1, wa.sub 3 1 (by decide), wSubC_le 3 1 wa (by decide) hw, rfl⟩
    | exact ⟨sub a 4 1, wa.sub 4 1 (by decide), wSubC_le 4 1 wa (by decide) hw, rfl⟩
    | exact ⟨sub a 5 1, wa.sub 5 1 (by decide), wSubC_le 5 1 wa (by decide) hw, rfl⟩
    | rfl
theorem co66 : FOk Tryz.prog Td 66 (toGO T [.i .i64, .i .i64, .i .i64, .i .i64, .i .i64, .s, .s, .i .i64] [.i .i64, .i .i64, .i .i64, .i .i64, .i .i64, .s, .s, .i .i64]) := by
  refine fok (env := envL [(88, (toGO T [.i .i64, .i .i64, .i .i64, .s, .s, .i .i64] [.i .i64, .i .i64, .i .i64, .s, .s, .i .i64]))]) (N := 15) tabTd (envD_cons co88 envD_nil) mixed Tryz.func66 rfl Tryz.call66 Tryz.ntmps66 ?_
  rintro args ⟨a, wa, hw, rfl⟩ hwf
  refine ⟨by simp, ?_⟩
  clear hwf
  rw [Tryz.results66]
  repeat' first
    | (refine And.intro ?_ ?_)
    | (intro h; cases h)
    | (intro h; rw [h])
    | (intro h)
  all_goals first
    | (show lowEdges _ = true; kernel_rfl) | (show logOk _ _ = true; kernel_rfl) | exact True.intro | exact rfl | exact Or.inr rfl | exact Or.inl rfl
    | rfl
    | exact ⟨sub a 2 6, wa.sub 2 6 (by decide), wSubC_le 2 6 wa (by decide) hw, rfl⟩
    | exact ⟨sub a 0 1, wa.sub 0 1 (by decide), wSubC_le 0 1 wa (by decide) hw, rfl⟩
    | exact ⟨sub a 1 1, wa.sub 1 1 (by decide), wSubC_le 1 1 wa (by decide) hw, rfl⟩
    | rfl
theorem co104 : FOk Tryz.prog Td 104 (toSO 9 9) := by
  refine fok (env := envL []) (N := 22) tabTd envD_nil mixed Tryz.func104 rfl Tryz.call104 Tryz.ntmps104 ?_
  rintro args ⟨a, hw, rfl⟩ hwf
  have wa : WfD T (.l 9) (.l a) := arg0O hwf (List.mem_singleton_self _)
  clear hwf
  have la : a.length ≤ 1048576 := by omega
  refine ⟨by simp, ?_⟩
  rw [Tryz.results104]
  repeat' first
    | (refine And.intro ?_ ?_)
    | (intro h; cases h)
    | (intro h; rw [h])
    | (intro h)
  all_goals first
    | (show lowEdges _ = true; kernel_rfl) | (show logOk _ _ = true; kernel_rfl) | exact True.intro | exact rfl | exact Or.inr rfl | exact Or.inl rfl
    | rfl
    | (simp only [Ty.bytes]; omega)
    | omega
    | skip
  refine awp_loop (Q := _) [0, 3, 4] [] (fun n s => ∃ i : Int, s = ([argS 9 a, .val false [.sl true 9 (fill a ([.s].map zeroD) i.toNat)], .val false [.i .i64 i]], []) ∧ 0 ≤ i ∧ i ≤ a.length ∧ n = a.length - i.toNat) ?_ ?_
  · exact ⟨rfl, a.length - 0, 0, congrArg (fun z => (([argS 9 a, .val false [.sl true 9 z], .val false [.i .i64 0]], []) : Snap)) (fill_zero a _).symm, by omega, by omega, rfl⟩
  rintro n s ⟨i, rfl, h1, h2, h3⟩
  repeat' first
    | (refine And.intro ?_ ?_)
    | (intro h; cases h)
    | (intro h; rw [h])
    | (intro h)
  all_goals first
    | (show lowEdges _ = true; kernel_rfl) | (show logOk _ _ = true; kernel_rfl) | exact True.intro | exact rfl | exact Or.inr rfl | exact Or.inl rfl
    | omega
    | exact of_decide_eq_true ‹_›
    | (have := of_decide_eq_true ‹decide (i < (a.length : Int)) = true›; rw [fill_length (by omega)]; omega)
    | exact congrArg (fun z => [CV.sl true 9 z]) (fill_all h1 h2 ‹_›)
    | (have hi : i < (a.length : Int) := of_decide_eq_true ‹_›
       have hk : i.toNat < a.length := by omega
       have wr : WfRow T [.s] (a.getD i.toNat []) := wa.row rfl hk
       have hwr := wRow_le hk
       first
         | exact ⟨_, wr, by rw [wRow_rowC wr]; omega, rfl⟩
         | exact ⟨_, wr, Nat.lt_of_lt_of_le (size_row hk) (Nat.le_of_lt_succ hs), by rw [wRow_rowC wr]; omega, rfl⟩
         | (refine ⟨a.length - (i + 1).toNat, by omega, i + 1, ?_, by omega, by omega, rfl⟩
            have e1 := fill_next (z := ([.s].map zeroD)) h1 hi (by rw [csD_rowC wr, wr.1]; rfl) (csD_rowC wr)
            have e2 : IntKind.i64.wrap (i + 1) = i + 1 := wrap_next h1 hi (Nat.le_trans la (by decide))
            exact (congrArg (fun z => (([argS 9 a, .val false [.sl true 9 z], .val false [.i .i64 (IntKind.i64.wrap (i + 1))]], []) : Snap)) e1).trans (congrArg (fun z => (([argS 9 a, .val false [.sl true 9 (fill a ([.s].map zeroD) (i + 1).toNat)], .val false [.i .i64 z]], []) : Snap)) e2)))
theorem co115 : FOk Tryz.prog Td 115 (toGO T [.i .i64, .i .i64] [.i .i64, .i .i64]) := by
  refine fok (env := envL []) (N := 11) tabTd envD_nil mixed Tryz.func115 rfl Tryz.call115 Tryz.ntmps115 ?_
  rintro args ⟨a, wa, hw, rfl⟩ hwf
  refine ⟨by simp, ?_⟩
  clear hwf
  rw [Tryz.results115]
  repeat' first
    | (refine And.intro ?_ ?_)
    | (intro h; cases h)
    | (intro h; rw [h])
    | (intro h)
  all_goals first
    | (show lowEdges _ = true; kernel_rfl) | (show logOk _ _ = true; kernel_rfl) | exact True.intro | exact rfl | exact Or.inr rfl | exact Or.inl rfl
    | rfl
    | exact ⟨sub a 0 1, wa.sub 0 1 (by decide), wSubC_le 0 1 wa (by decide) hw, rfl⟩
    | exact ⟨sub a 1 1, wa.sub 1 1 (by decide), wSubC_le 1 1 wa (by decide) hw, rfl⟩
    | rfl
theorem co113 : FOk Tryz.prog Td 113 (toSO 155 133) := by
  refine fok (env := envL [(115, (toGO T [.i .i64, .i .i64] [.i .i64, .i .i64]))]) (N := 23) tabTd (envD_cons co115 envD_nil) mixed Tryz.func113 rfl Tryz.call113 Tryz.ntmps113 ?_
  rintro args ⟨a, hw, rfl⟩ hwf
  have wa : WfD T (.l 155) (.l a) := arg0O hwf (List.mem_singleton_self _)
  clear hwf
  have la : a.length ≤ 1048576 := by omega
  refine ⟨by simp, ?_⟩
  rw [Tryz.results113]
  repeat' first
    | (refine And.intro ?_ ?_)
    | (intro h; cases h)
    | (intro h; rw [h])
    | (intro h)
  all_goals first
    | (show lowEdges _ = true; kernel_rfl) | (show logOk _ _ = true; kernel_rfl) | exact True.intro | exact rfl | exact Or.inr rfl | exact Or.inl rfl
    | rfl
    | (simp only [Ty.bytes]; omega)
    | omega
    | skip
  refine awp_loop (Q := _) [0, 3, 4] [] (fun n s => ∃ i : Int, s = ([argS 155 a, .val false [.sl true 133 (fill a ([.i .i64, .i .i64].map zeroD) i.toNat)], .val false [.i .i64 i]], []) ∧ 0 ≤ i ∧ i ≤ a.length ∧ n = a.length - i.toNat) ?_ ?_
  · exact ⟨rfl, a.length - 0, 0, congrArg (fun z => (([argS 155 a, .val false [.sl true 133 z], .val false [.i .i64 0]], []) : Snap)) (fill_zero a _).symm, by omega, by omega, rfl⟩
  rintro n s ⟨i, rfl, h1, h2, h3⟩
  repeat' first
    | (refine And.intro ?_ ?_)
    | (intro h; cases h)
    | (intro h; rw [h])
    | (intro h)
  all_goals first
    | (show lowEdges _ = true; kernel_rfl) | (show logOk _ _ = true; kernel_rfl) | exact True.intro | exact rfl | exact Or.inr rfl | exact Or.inl rfl
    | omega
    | exact of_decide_eq_true ‹_›
    | (have := of_decide_eq_true ‹decide (i < (a.length : Int)) = true›; rw [fill_length (by omega)]; omega)
    | exact congrArg (fun z => [CV.sl true 133 z]) (fill_all h1 h2 ‹_›)
    | (have hi : i < (a.length : Int) := of_decide_eq_true ‹_›
       have hk : i.toNat < a.length := by omega
       have wr : WfRow T [.i .i64, .i .i64] (a.getD i.toNat []) := wa.row rfl hk
       have hwr := wRow_le hk
       first
         | exact ⟨_, wr, by rw [wRow_rowC wr]; omega, rfl⟩
         | exact ⟨_, wr, Nat.lt_of_lt_of_le (size_row hk) (Nat.le_of_lt_succ hs), by rw [wRow_rowC wr]; omega, rfl⟩
         | (refine ⟨a.length - (i + 1).toNat, by omega, i + 1, ?_, by omega, by omega, rfl⟩
            have e1 := fill_next (z := ([.i .i64, .i .i64].map zeroD)) h1 hi (by rw [csD_rowC wr, wr.1]; rfl) (csD_rowC wr)
            have e2 : IntKind.i64.wrap (i + 1) = i + 1 := wrap_next h1 hi (Nat.le_trans la (by decide))
            exact (congrArg (fun z => (([argS 155 a, .val false [.sl true 133 z], .val false [.i .i64 (IntKind.i64.wrap (i + 1))]], []) : Snap)) e1).trans (congrArg (fun z => (([argS 155 a, .val false [.sl true 133 (fill a ([.i .i64, .i .i64].map zeroD) (i + 1).toNat)], .val false [.i .i64 z]], []) : Snap)) e2)))
theorem co110 : FOk Tryz.prog Td 110 (toGO T [.l 3, .l 155] [.l 3, .l 133]) := by
  refine fok (env := envL [(65, (toSO 3 3)), (113, (toSO 155 133))]) (N := 13) tabTd (envD_cons co65 (envD_cons co113 envD_nil)) mixed Tryz.func110 rfl Tryz.call110 Tryz.ntmps110 ?_
  rintro args ⟨a, wa, hw, rfl⟩ hwf
  refine ⟨by simp, ?_⟩
  clear hwf
  rw [Tryz.results110]
  repeat' first
    | (refine And.intro ?_ ?_)
    | (intro h; cases h)
    | (intro h; rw [h])
    | (intro h)
  all_goals first
    | (show lowEdges _ = true; kernel_rfl) | (show logOk _ _ = true; kernel_rfl) | exact True.intro | exact rfl | exact Or.inr rfl | exact Or.inl rfl
    | exact ⟨_, wCellC_le wa hw 0, rfl⟩
    | exact ⟨_, wCellC_le wa hw 1, rfl⟩
    | exact ⟨_, Nat.lt_of_lt_of_le (size_cell (by rw [wa.1]; decide)) (Nat.le_of_lt_succ hs), wCellC_le wa hw 0, rfl⟩
    | exact ⟨_, Nat.lt_of_lt_of_le (size_cell (by rw [wa.1]; decide)) (Nat.le_of_lt_succ hs), wCellC_le wa hw 1, rfl⟩
    | exact ⟨sub a 0 1, wa.sub 0 1 (by decide), wSubC_le 0 1 wa (by decide) hw, rfl⟩
    | exact ⟨sub a 1 1, wa.sub 1 1 (by decide), wSubC_le 1 1 wa (by decide) hw, rfl⟩
    | rfl
theorem co105 : FOk Tryz.prog Td 105 (toSO 148 115) := by
  refine fok (env := envL [(110, (toGO T [.l 3, .l 155] [.l 3, .l 133]))]) (N := 23) tabTd (envD_cons co110 envD_nil) mixed Tryz.func105 rfl Tryz.call105 Tryz.ntmps105 ?_
  rintro args ⟨a, hw, rfl⟩ hwf
  have wa : WfD T (.l 148) (.l a) := arg0O hwf (List.mem_singleton_self _)
  clear hwf
  have la : a.length ≤ 1048576 := by omega
  refine ⟨by simp, ?_⟩
  rw [Tryz.results105]
  repeat' first
    | (refine And.intro ?_ ?_)
    | (intro h; cases h)
    | (intro h; rw [h])
    | (intro h)
  all_goals first
    | (show lowEdges _ = true; kernel_rfl) | (show logOk _ _ = true; kernel_rfl) | exact True.intro | exact rfl | exact Or.inr rfl | exact Or.inl rfl
    | rfl
    | (simp only [Ty.bytes]; omega)
    | omega
    | skip
  refine awp_loop (Q := _) [0, 3, 4] [] (fun n s => ∃ i : Int, s = ([argS 148 a, .val false [.sl true 115 (fill a ([.l 3, .l 133].map zeroD) i.toNat)], .val false [.i .i64 i]], []) ∧ 0 ≤ i ∧ i ≤ a.length ∧ n = a.length - i.toNat) ?_ ?_
  · exact ⟨rfl, a.length - 0, 0, congrArg (fun z => (([argS 148 a, .val false [.sl true 115 z], .val false [.i .i64 0]], []) : Snap)) (fill_zero a _).symm, by omega, by omega, rfl⟩
  rintro n s ⟨i, rfl, h1, h2, h3⟩
  repeat' first
    | (refine And.intro ?_ ?_)
    | (intro h; cases h)
    | (intro h; rw [h])
    | (intro h)
  all_goals first
    | (show lowEdges _ = true; kernel_rfl) | (show logOk _ _ = true; kernel_rfl) | exact True.intro | exact rfl | exact Or.inr rfl | exact Or.inl rfl
    | omega
    | exact of_decide_eq_true ‹_›
    | (have := of_decide_eq_true ‹decide (i < (a.length : Int)) = true›; rw [fill_length (by omega)]; omega)
    | exact congrArg (fun z => [CV.sl true 115 z]) (fill_all h1 h2 ‹_›)
    | (have hi : i < (a.length : Int) := of_decide_eq_true ‹_›
       have hk : i.toNat < a.length := by omega
       have wr : WfRow T [.l 3, .l 155] (a.getD i.toNat []) := wa.row rfl hk
       have hwr := wRow_le hk
       first
         | exact ⟨_, wr, by rw [wRow_rowC wr]; omega, rfl⟩
         | exact ⟨_, wr, Nat.lt_of_lt_of_le (size_row hk) (Nat.le_of_lt_succ hs), by rw [wRow_rowC wr]; omega, rfl⟩
         | (refine ⟨a.length - (i + 1).toNat, by omega, i + 1, ?_, by omega, by omega, rfl⟩
            have e1 := fill_next (z := ([.l 3, .l 133].map zeroD)) h1 hi (by rw [csD_rowC wr, wr.1]; rfl) (csD_rowC wr)
            have e2 : IntKind.i64.wrap (i + 1) = i + 1 := wrap_next h1 hi (Nat.le_trans la (by decide))
            exact (congrArg (fun z => (([argS 148 a, .val false [.sl true 115 z], .val false [.i .i64 (IntKind.i64.wrap (i + 1))]], []) : Snap)) e1).trans (congrArg (fun z => (([argS 148 a, .val false [.sl true 115 (fill a ([.l 3, .l 133].map zeroD) (i + 1).toNat)], .val false [.i .i64 z]], []) : Snap)) e2)))
theorem cstep97 (n : Nat) (hn : FOk Tryz.prog Td 103 (toSOn 122 92 n)) : FOk Tryz.prog Td 97 (toGOn T [.i .i64, .i .i64, .i .i64, .s, .l 122, .l 9, .l 148] [.i .i64, .i .i64, .i .i64, .s, .l 92, .l 9, .l 115] (n + 1)) := by
  refine fok (env := envL [(103, (toSOn 122 92 n)), (104, (toSO 9 9)), (105, (toSO 148 115))]) (N := 29) tabTd (envD_cons hn (envD_cons co104 (envD_cons co105 envD_nil))) mixed Tryz.func97 rfl Tryz.call97 Tryz.ntmps97 ?_
  rintro args ⟨a, wa, hs, hw, rfl⟩ hwf
  refine ⟨by simp, ?_⟩
  clear hwf
  rw [Tryz.results97]
  repeat' first
    | (refine And.intro ?_ ?_)
    | (intro h; cases h)
    | (intro h; rw [h])
    | (intro h)
  all_goals first
    | (show lowEdges _ = true; kernel_rfl) | (show logOk _ _ = true; kernel_rfl) | exact True.intro | exact rfl | exact Or.inr rfl | exact Or.inl rfl
    | exact ⟨_, wCellC_le wa hw 4, rfl⟩
    | exact ⟨_, wCellC_le wa hw 5, rfl⟩
    | exact ⟨_, wCellC_le wa hw 6, rfl⟩
    | exact ⟨_, Nat.lt_of_lt_of_le (size_cell (by rw [wa.1]; decide)) (Nat.le_of_lt_succ hs), wCellC_le wa hw 4, rfl⟩
    | exact ⟨_, Nat.lt_of_lt_of_le (size_cell (by rw [wa.1]; decide)) (Nat.le_of_lt_succ hs), wCellC_le wa hw 5, rfl⟩
    | exact ⟨_, Nat.lt_of_lt_of_le (size_cell (by rw [wa.1]; decide)) (Nat.le_of_lt_succ hs), wCellC_le wa hw 6, rfl⟩
    | exact ⟨sub a 0 1, wa.sub 0 1 (by decide), wSubC_le 0 1 wa (by decide) hw, rfl⟩
    | exact ⟨sub a 1 1, wa.sub 1 1 (by decide), wSubC_le 1 1 wa (by decide) hw, rfl⟩
    | exact ⟨sub a 2 1, wa.sub 2 1 (by decide), wSubC_le 2 1 wa (by decide) hw, rfl⟩
    | exact ⟨sub a 3 1, wa.sub 3 1 (by decide), wSubC_le 3 1 wa (by decide) hw, rfl⟩
    | exact ⟨sub a 4 1, wa.sub 4 1 (by decide), wSubC_le 4 1 wa (by decide) hw, rfl⟩
    | exact ⟨sub a 5 1, wa.sub 5 1 (by decide), wSubC_le 5 1 wa (by decide) hw, rfl⟩
    | exact ⟨sub a 6 1, wa.sub 6 1 (by decide), wSubC_le 6 1 wa (by decide) hw, rfl⟩
    | rfl
theorem cstep103 (n : Nat) (hn : FOk Tryz.prog Td 97 (toGOn T [.i .i64, .i .i64, .i .i64, .s, .l 122, .l 9, .l 148] [.i .i64, .i .i64, .i .i64, .s, .l 92, .l 9, .l 115] n)) : FOk Tryz.prog Td 103 (toSOn 122 92 (n + 1)) := by
  refine fok (env := envL [(97, (toGOn T [.i .i64, .i .i64, .i .i64, .s, .l 122, .l 9, .l 148] [.i .i64, .i .i64, .i .i64, .s, .l 92, .l 9, .l 115] n))]) (N := 23) tabTd (envD_cons hn envD_nil) mixed Tryz.func103 rfl Tryz.call103 Tryz.ntmps103 ?_
  rintro args ⟨a, hs, hw, rfl⟩ hwf
  have wa : WfD T (.l 122) (.l a) := arg0O hwf (List.mem_singleton_self _)
  clear hwf
  have la : a.length ≤ 1048576 := by omega
  refine ⟨by simp, ?_⟩
  rw [Tryz.results103]
  repeat' first
    | (refine And.intro ?_ ?_)
    | (intro h; cases h)
    | (intro h; rw [h])
    | (intro h)
  all_goals first
    | (show lowEdges _ = true; kernel_rfl) | (show logOk _ _ = true; kernel_rfl) | exact True.intro | exact rfl | exact Or.inr rfl | exact Or.inl rfl
    | rfl
    | (simp only [Ty.bytes]; omega)
    | omega
    | skip
  refine awp_loop (Q := _) [0, 3, 4] [] (fun n s => ∃ i : Int, s = ([argS 122 a, .val false [.sl true 92 (fill a ([.i .i64, .i .i64, .i .i64, .s, .l 92, .l 9, .l 115].map zeroD) i.toNat)], .val false [.i .i64 i]], []) ∧ 0 ≤ i ∧ i ≤ a.length ∧ n = a.length - i.toNat) ?_ ?_
  · exact ⟨rfl, a.length - 0, 0, congrArg (fun z => (([argS 122 a, .val false [.sl true 92 z], .val false [.i .i64 0]], []) : Snap)) (fill_zero a _).symm, by omega, by omega, rfl⟩
  rintro n s ⟨i, rfl, h1, h2, h3⟩
  repeat' first
    | (refine And.intro ?_ ?_)
    | (intro h; cases h)
    | (intro h; rw [h])
    | (intro h)
  all_goals first
    | (show lowEdges _ = true; kernel_rfl) | (show logOk _ _ = true; kernel_rfl) | exact True.intro | exact rfl | exact Or.inr rfl | exact Or.inl rfl
    | omega
    | exact of_decide_eq_true ‹_›
    | (have := of_decide_eq_true ‹decide (i < (a.length : Int)) = true›; rw [fill_length (by omega)]; omega)
    | exact congrArg (fun z => [CV.sl true 92 z]) (fill_all h1 h2 ‹_›)
    | (have hi : i < (a.length : Int) := of_decide_eq_true ‹_›
       have hk : i.toNat < a.length := by omega
       have wr : WfRow T [.i .i64, .i .i64, .i .i64, .s, .l 122, .l 9, .l 148] (a.getD i.toNat []) := wa.row rfl hk
       have hwr := wRow_le hk
       first
         | exact ⟨_, wr, by rw [wRow_rowC wr]; omega, rfl⟩
         | exact ⟨_, wr, Nat.lt_of_lt_of_le (size_row hk) (Nat.le_of_lt_succ hs), by rw [wRow_rowC wr]; omega, rfl⟩
         | (refine ⟨a.length - (i + 1).toNat, by omega, i + 1, ?_, by omega, by omega, rfl⟩
            have e1 := fill_next (z := ([.i .i64, .i .i64, .i .i64, .s, .l 92, .l 9, .l 115].map zeroD)) h1 hi (by rw [csD_rowC wr, wr.1]; rfl) (csD_rowC wr)
            have e2 : IntKind.i64.wrap (i + 1) = i + 1 := wrap_next h1 hi (Nat.le_trans la (by decide))
            exact (congrArg (fun z => (([argS 122 a, .val false [.sl true 92 z], .val false [.i .i64 (IntKind.i64.wrap (i + 1))]], []) : Snap)) e1).trans (congrArg (fun z => (([argS 122 a, .val false [.sl true 92 (fill a ([.i .i64, .i .i64, .i .i64, .s, .l 92, .l 9, .l 115].map zeroD) (i + 1).toNat)], .val false [.i .i64 z]], []) : Snap)) e2)))
theorem czero97 : FOk Tryz.prog Td 97 (toGOn T [.i .i64, .i .i64, .i .i64, .s, .l 122, .l 9, .l 148] [.i .i64, .i .i64, .i .i64, .s, .l 92, .l 9, .l 115] 0) := by
  refine fok (env := envL []) (N := 29) tabTd envD_nil mixed Tryz.func97 rfl Tryz.call97 Tryz.ntmps97 ?_
  rintro args ⟨a, wa, hs, hw, rfl⟩ _
  exact absurd hs (Nat.not_lt_zero _)
theorem czero103 : FOk Tryz.prog Td 103 (toSOn 122 92 0) := by
  refine fok (env := envL []) (N := 23) tabTd envD_nil mixed Tryz.func103 rfl Tryz.call103 Tryz.ntmps103 ?_
  rintro args ⟨a, hs, hw, rfl⟩ _
  exact absurd hs (Nat.not_lt_zero _)
theorem cboth97 (n : Nat) : FOk Tryz.prog Td 97 (toGOn T [.i .i64, .i .i64, .i .i64, .s, .l 122, .l 9, .l 148] [.i .i64, .i .i64, .i .i64, .s, .l 92, .l 9, .l 115] n) ∧ FOk Tryz.prog Td 103 (toSOn 122 92 n) := by
  induction n with
  | zero => exact ⟨czero97, czero103⟩
  | succ n ih => exact ⟨cstep97 n ih.2, cstep103 n ih.1⟩
theorem co97 : FOk Tryz.prog Td 97 (toGO T [.i .i64, .i .i64, .i .i64, .s, .l 122, .l 9, .l 148] [.i .i64, .i .i64, .i .i64, .s, .l 92, .l 9, .l 115]) := FOk.liftO (s := fun n => (toGOn T [.i .i64, .i .i64, .i .i64, .s, .l 122, .l 9, .l 148] [.i .i64, .i .i64, .i .i64, .s, .l 92, .l 9, .l 115] n)) (fun n => (cboth97 n).1) (fun args ⟨a, wa, hw, h⟩ => ⟨SizeOf.sizeOf a + 1, a, wa, Nat.lt_succ_self _, hw, h⟩) (fun n => rfl)
theorem co89 : FOk Tryz.prog Td 89 (toGO T [.i .i64, .i .i64, .i .i64, .s, .i .i64, .i .i64, .i .i64, .s, .l 122, .l 9, .l 148] [.i .i64, .i .i64, .i .i64, .s, .i .i64, .i .i64, .i .i64, .s, .l 92, .l 9, .l 115]) := by
  refine fok (env := envL [(97, (toGO T [.i .i64, .i .i64, .i .i64, .s, .l 122, .l 9, .l 148] [.i .i64, .i .i64, .i .i64, .s, .l 92, .l 9, .l 115]))]) (N := 21) tabTd (envD_cons co97 envD_nil) mixed Tryz.func89 rfl Tryz.call89 Tryz.ntmps89 ?_
  rintro args ⟨a, wa, hw, rfl⟩ hwf
  refine ⟨by simp, ?_⟩
  clear hwf
  rw [Tryz.results89]
  repeat' first
    | (refine And.intro ?_ ?_)
    | (intro h; cases h)
    | (intro h; rw [h])
    | (intro h)
  all_goals first
    | (show lowEdges _ = true; kernel_rfl) | (show logOk _ _ = true; kernel_rfl) | exact True.intro | exact rfl | exact Or.inr rfl | exact Or.inl rfl
    | exact ⟨_, wCellC_le wa hw 8, rfl⟩
    | exact ⟨_, wCellC_le wa hw 9, rfl⟩
    | exact ⟨_, wCellC_le wa hw 10, rfl⟩
    | exact ⟨_, Nat.lt_of_lt_of_le (size_cell (by rw [wa.1]; decide)) (Nat.le_of_lt_succ hs), wCellC_le wa hw 8, rfl⟩
    | exact ⟨_, Nat.lt_of_lt_of_le (size_cell (by rw [wa.1]; decide)) (Nat.le_of_lt_succ hs), wCellC_le wa hw 9, rfl⟩
    | exact ⟨_, Nat.lt_of_lt_of_le (size_cell (by rw [wa.1]; decide)) (Nat.le_of_lt_succ hs), wCellC_le wa hw 10, rfl⟩
    | exact ⟨sub a 4 7, wa.sub 4 7 (by decide), wSubC_le 4 7 wa (by decide) hw, rfl⟩
    | exact ⟨sub a 0 1, wa.sub 0 1 (by decide), wSubC_le 0 1 wa (by decide) hw, rfl⟩
    | exact ⟨sub a 1 1, wa.sub 1 1 (by decide), wSubC_le 1 1 wa (by decide) hw, rfl⟩
    | exact ⟨sub a 2 1, wa.sub 2 1 (by decide), wSubC_le 2 1 wa (by decide) hw, rfl⟩
    | exact ⟨sub a 3 1, wa.sub 3 1 (by decide), wSubC_le 3 1 wa (by decide) hw, rfl⟩
    | rfl
theorem co67 : FOk Tryz.prog Td 67 (toSO 124 94) := by
  refine fok (env := envL [(89, (toGO T [.i .i64, .i .i64, .i .i64, .s, .i .i64, .i .i64, .i .i64, .s, .l 122, .l 9, .l 148] [.i .i64, .i .i64, .i .i64, .s, .i .i64, .i .i64, .i .i64, .s, .l 92, .l 9, .l 115]))]) (N := 23) tabTd (envD_cons co89 envD_nil) mixed Tryz.func67 rfl Tryz.call67 Tryz.ntmps67 ?_
  rintro args ⟨a, hw, rfl⟩ hwf
  have wa : WfD T (.l 124) (.l a) := arg0O hwf (List.mem_singleton_self _)
  clear hwf
  have la : a.length ≤ 1048576 := by omega
  refine ⟨by simp, ?_⟩
  rw [Tryz.results67]
  repeat' first
    | (refine And.intro ?_ ?_)
    | (intro h; cases h)
    | (intro h; rw [h])
    | (intro h)
  all_goals first
    | (show lowEdges _ = true; kernel_rfl) | (show logOk _ _ = true; kernel_rfl) | exact True.intro | exact rfl | exact Or.inr rfl | exact Or.inl rfl
    | rfl
    | (simp only [Ty.bytes]; omega)
    | omega
    | skip
  refine awp_loop (Q := _) [0, 3, 4] [] (fun n s => ∃ i : Int, s = ([argS 124 a, .val false [.sl true 94 (fill a ([.i .i64, .i .i64, .i .i64, .s, .i .i64, .i .i64, .i .i64, .s, .l 92, .l 9, .l 115].map zeroD) i.toNat)], .val false [.i .i64 i]], []) ∧ 0 ≤ i ∧ i ≤ a.length ∧ n = a.length - i.toNat) ?_ ?_
  · exact ⟨rfl, a.length - 0, 0, congrArg (fun z => (([argS 124 a, .val false [.sl true 94 z], .val false [.i .i64 0]], []) : Snap)) (fill_zero a _).symm, by omega, by omega, rfl⟩
  rintro n s ⟨i, rfl, h1, h2, h3⟩
  repeat' first
    | (refine And.intro ?_ ?_)
    | (intro h; cases h)
    | (intro h; rw [h])
    | (intro h)
  all_goals first
    | (show lowEdges _ = true; kernel_rfl) | (show logOk _ _ = true; kernel_rfl) | exact True.intro | exact rfl | exact Or.inr rfl | exact Or.inl rfl
    | omega
    | exact of_decide_eq_true ‹_›
    | (have := of_decide_eq_true ‹decide (i < (a.length : Int)) = true›; rw [fill_length (by omega)]; omega)
    | exact congrArg (fun z => [CV.sl true 94 z]) (fill_all h1 h2 ‹_›)
    | (have hi : i < (a.length : Int) := of_decide_eq_true ‹_›
       have hk : i.toNat < a.length := by omega
       have wr : WfRow T [.i .i64, .i .i64, .i .i64, .s, .i .i64, .i .i64, .i .i64, .s, .l 122, .l 9, .l 148] (a.getD i.toNat []) := wa.row rfl hk
       have hwr := wRow_le hk
       first
         | exact ⟨_, wr, by rw [wRow_rowC wr]; omega, rfl⟩
         | exact ⟨_, wr, Nat.lt_of_lt_of_le (size_row hk) (Nat.le_of_lt_succ hs), by rw [wRow_rowC wr]; omega, rfl⟩
         | (refine ⟨a.length - (i + 1).toNat, by omega, i + 1, ?_, by omega, by omega, rfl⟩
            have e1 := fill_next (z := ([.i .i64, .i .i64, .i .i64, .s, .i .i64, .i .i64, .i .i64, .s, .l 92, .l 9, .l 115].map zeroD)) h1 hi (by rw [csD_rowC wr, wr.1]; rfl) (csD_rowC wr)
            have e2 : IntKind.i64.wrap (i + 1) = i + 1 := wrap_next h1 hi (Nat.le_trans la (by decide))
            exact (congrArg (fun z => (([argS 124 a, .val false [.sl true 94 z], .val false [.i .i64 (IntKind.i64.wrap (i + 1))]], []) : Snap)) e1).trans (congrArg (fun z => (([argS 124 a, .val false [.sl true 94 (fill a ([.i .i64, .i .i64, .i .i64, .s, .i .i64, .i .i64, .i .i64, .s, .l 92, .l 9, .l 115].map zeroD) (i + 1).toNat)], .val false [.i .i64 z]], []) : Snap)) e2)))
theorem co48 : FOk Tryz.prog Td 48 (toGO T [.i .i64, .i .i64, .i .i64, .l 3, .i .i64, .i .i64, .i .i64, .i .i64, .i .i64, .s, .s, .i .i64, .s, .s, .i .i64, .i .i64, .l 124] [.i .i64, .i .i64, .i .i64, .l 3, .i .i64, .i .i64, .i .i64, .i .i64, .i .i64, .s, .s, .i .i64, .s, .s, .i .i64, .i .i64, .l 94]) := by
  refine fok (env := envL [(65, (toSO 3 3)), (66, (toGO T [.i .i64, .i .i64, .i .i64, .i .i64, .i .i64, .s, .s, .i .i64] [.i .i64, .i .i64, .i .i64, .i .i64, .i .i64, .s, .s, .i .i64])), (67, (toSO 124 94))]) (N := 38) tabTd (envD_cons co65 (envD_cons co66 (envD_cons co67 envD_nil))) mixed Tryz.func48 rfl Tryz.call48 Tryz.ntmps48 ?_
  rintro args ⟨a, wa, hw, rfl⟩ hwf
  refine ⟨by simp, ?_⟩
  clear hwf
  rw [Tryz.results48]
  repeat' first
    | (refine And.intro ?_ ?_)
    | (intro h; cases h)
    | (intro h; rw [h])
    | (intro h)
  all_goals first
    | (show lowEdges _ = true; kernel_rfl) | (show logOk _ _ = true; kernel_rfl) | exact True.intro | exact rfl | exact Or.inr rfl | exact Or.inl rfl
    | exact ⟨_, wCellC_le wa hw 3, rfl⟩
    | exact ⟨_, wCellC_le wa hw 16, rfl⟩
    | exact ⟨_, Nat.lt_of_lt_of_le (size_cell (by rw [wa.1]; decide)) (Nat.le_of_lt_succ hs), wCellC_le wa hw 3, rfl⟩
    | exact ⟨_, Nat.lt_of_lt_of_le (size_cell (by rw [wa.1]; decide)) (Nat.le_of_lt_succ hs), wCellC_le wa hw 16, rfl⟩
    | exact ⟨sub a 4 8, wa.sub 4 8 (by decide), wSubC_le 4 8 wa (by decide) hw, rfl⟩
    | exact ⟨sub a 0 1, wa.sub 0 1 (by decide), wSubC_le 0 1 wa (by decide) hw, rfl⟩
    | exact ⟨sub a 1 1, wa.sub 1 1 (by decide), wSubC_le 1 1 wa (by decide) hw, rfl⟩
    | exact ⟨sub a 2 1, wa.sub 2 1 (by decide), wSubC_le 2 1 wa (by decide) hw, rfl⟩
    | exact ⟨sub a 3 1, wa.sub 3 1 (by decide), wSubC_le 3 1 wa (by decide) hw, rfl⟩
    | exact ⟨sub a 12 1, wa.sub 12 1 (by decide), wSubC_le 12 1 wa (by decide) hw, rfl⟩
    | exact ⟨sub a 13 1, wa.sub 13 1 (by decide), wSubC_le 13 1 wa (by decide) hw, rfl⟩
    | exact ⟨sub a 14 1, wa.sub 14 1 (by decide), wSubC_le 14 1 wa (by decide) hw, rfl⟩
    | exact ⟨sub a 15 1, wa.sub 15 1 (by decide), wSubC_le 15 1 wa (by decide) hw, rfl⟩
    | exact ⟨sub a 16 1, wa.sub 16 1 (by decide), wSubC_le 16 1 wa (by decide) hw, rfl⟩
    | rfl
theorem co32 : FOk Tryz.prog Td 32 (toSO 72 54) := by
  refine fok (env := envL [(48, (toGO T [.i .i64, .i .i64, .i .i64, .l 3, .i .i64, .i .i64, .i .i64, .i .i64, .i .i64, .s, .s, .i .i64, .s, .s, .i .i64, .i .i64, .l 124] [.i .i64, .i .i64, .i .i64, .l 3, .i .i64, .i .i64, .i .i64, .i .i64, .i .i64, .s, .s, .i .i64, .s, .s, .i .i64, .i .i64, .l 94]))]) (N := 23) tabTd (envD_cons co48 envD_nil) mixed Tryz.func32 rfl Tryz.call32 Tryz.ntmps32 ?_
  rintro args ⟨a, hw, rfl⟩ hwf
  have wa : WfD T (.l 72) (.l a) := arg0O hwf (List.mem_singleton_self _)
  clear hwf
  have la : a.length ≤ 1048576 := by omega
  refine ⟨by simp, ?_⟩
  rw [Tryz.results32]
  repeat' first
    | (refine And.intro ?_ ?_)
    | (intro h; cases h)
    | (intro h; rw [h])
    | (intro h)
  all_goals first
    | (show lowEdges _ = true; kernel_rfl) | (show logOk _ _ = true; kernel_rfl) | exact True.intro | exact rfl | exact Or.inr rfl | exact Or.inl rfl
    | rfl
    | (simp only [Ty.bytes]; omega)
    | omega
    | skip
  refine awp_loop (Q := _) [0, 3, 4] [] (fun n s => ∃ i : Int, s = ([argS 72 a, .val false [.sl true 54 (fill a ([.i .i64, .i .i64, .i .i64, .l 3, .i .i64, .i .i64, .i .i64, .i .i64, .i .i64, .s, .s, .i .i64, .s, .s, .i .i64, .i .i64, .l 94].map zeroD) i.toNat)], .val false [.i .i64 i]], []) ∧ 0 ≤ i ∧ i ≤ a.length ∧ n = a.length - i.toNat) ?_ ?_
  · exact ⟨rfl, a.length - 0, 0, congrArg (fun z => (([argS 72 a, .val false [.sl true 54 z], .val false [.i .i64 0]], []) : Snap)) (fill_zero a _).symm, by omega, by omega, rfl⟩
  rintro n s ⟨i, rfl, h1, h2, h3⟩
  repeat' first
    | (refine And.intro ?_ ?_)
    | (intro h; cases h)
    | (intro h; rw [h])
    | (intro h)
  all_goals first
    | (show lowEdges _ = true; kernel_rfl) | (show logOk _ _ = true; kernel_rfl) | exact True.intro | exact rfl | exact Or.inr rfl | exact Or.inl rfl
    | omega
    | exact of_decide_eq_true ‹_›
    | (have := of_decide_eq_true ‹decide (i < (a.length : Int)) = true›; rw [fill_length (by omega)]; omega)
    | exact congrArg (fun z => [CV.sl true 54 z]) (fill_all h1 h2 ‹_›)
    | (have hi : i < (a.length : Int) := of_decide_eq_true ‹_›
       have hk : i.toNat < a.length := by omega
       have wr : WfRow T [.i .i64, .i .i64, .i .i64, .l 3, .i .i64, .i .i64, .i .i64, .i .i64, .i .i64, .s, .s, .i .i64, .s, .s, .i .i64, .i .i64, .l 124] (a.getD i.toNat []) := wa.row rfl hk
       have hwr := wRow_le hk
       first
         | exact ⟨_, wr, by rw [wRow_rowC wr]; omega, rfl⟩
         | exact ⟨_, wr, Nat.lt_of_lt_of_le (size_row hk) (Nat.le_of_lt_succ hs), by rw [wRow_rowC wr]; omega, rfl⟩
         | (refine ⟨a.length - (i + 1).toNat, by omega, i + 1, ?_, by omega, by omega, rfl⟩
            have e1 := fill_next (z := ([.i .i64, .i .i64, .i .i64, .l 3, .i .i64, .i .i64, .i .i64, .i .i64, .i .i64, .s, .s, .i .i64, .s, .s, .i .i64, .i .i64, .l 94].map zeroD)) h1 hi (by rw [csD_rowC wr, wr.1]; rfl) (csD_rowC wr)
            have e2 : IntKind.i64.wrap (i + 1) = i + 1 := wrap_next h1 hi (Nat.le_trans la (by decide))
            exact (congrArg (fun z => (([argS 72 a, .val false [.sl true 54 z], .val false [.i .i64 (IntKind.i64.wrap (i + 1))]], []) : Snap)) e1).trans (congrArg (fun z => (([argS 72 a, .val false [.sl true 54 (fill a ([.i .i64, .i .i64, .i .i64, .l 3, .i .i64, .i .i64, .i .i64, .i .i64, .i .i64, .s, .s, .i .i64, .s, .s, .i .i64, .i .i64, .l 94].map zeroD) (i + 1).toNat)], .val false [.i .i64 z]], []) : Snap)) e2)))
theorem co17 : FOk Tryz.prog Td 17 (toGO T [.i .i64, .l 72] [.i .i64, .l 54]) := by
  refine fok (env := envL [(32, (toSO 72 54))]) (N := 12) tabTd (envD_cons co32 envD_nil) mixed Tryz.func17 rfl Tryz.call17 Tryz.ntmps17 ?_
  rintro args ⟨a, wa, hw, rfl⟩ hwf
  refine ⟨by simp, ?_⟩
  clear hwf
  rw [Tryz.results17]
  repeat' first
    | (refine And.intro ?_ ?_)
    | (intro h; cases h)
    | (intro h; rw [h])
    | (intro h)
  all_goals first
    | (show lowEdges _ = true; kernel_rfl) | (show logOk _ _ = true; kernel_rfl) | exact True.intro | exact rfl | exact Or.inr rfl | exact Or.inl rfl
    | exact ⟨_, wCellC_le wa hw 1, rfl⟩
    | exact ⟨_, Nat.lt_of_lt_of_le (size_cell (by rw [wa.1]; decide)) (Nat.le_of_lt_succ hs), wCellC_le wa hw 1, rfl⟩
    | exact ⟨sub a 0 1, wa.sub 0 1 (by decide), wSubC_le 0 1 wa (by decide) hw, rfl⟩
    | exact ⟨sub a 1 1, wa.sub 1 1 (by decide), wSubC_le 1 1 wa (by decide) hw, rfl⟩
    | rfl
theorem co6 : FOk Tryz.prog Td 6 (toSO 33 36) := by
  refine fok (env := envL [(17, (toGO T [.i .i64, .l 72] [.i .i64, .l 54]))]) (N := 23) tabTd (envD_cons co17 envD_nil) mixed Tryz.func6 rfl Tryz.call6 Tryz.ntmps6 ?_
  rintro args ⟨a, hw, rfl⟩ hwf
  have wa : WfD T (.l 33) (.l a) := arg0O hwf (List.mem_singleton_self _)
  clear hwf
  have la : a.length ≤ 1048576 := by omega
  refine ⟨by simp, ?_⟩
  rw [Tryz.results6]
  repeat' first
    | (refine And.intro ?_ ?_)
    | (intro h; cases h)
    | (intro h; rw [h])
    | (intro h)
  all_goals first
    | (show lowEdges _ = true; kernel_rfl) | (show logOk _ _ = true; kernel_rfl) | exact True.intro | exact rfl | exact Or.inr rfl | exact Or.inl rfl
    | rfl
    | (simp only [Ty.bytes]; omega)
    | omega
    | skip
  refine awp_loop (Q := _) [0, 3, 4] [] (fun n s => ∃ i : Int, s = ([argS 33 a, .val false [.sl true 36 (fill a ([.i .i64, .l 54].map zeroD) i.toNat)], .val false [.i .i64 i]], []) ∧ 0 ≤ i ∧ i ≤ a.length ∧ n = a.length - i.toNat) ?_ ?_
  · exact ⟨rfl, a.length - 0, 0, congrArg (fun z => (([argS 33 a, .val false [.sl true 36 z], .val false [.i .i64 0]], []) : Snap)) (fill_zero a _).symm, by omega, by omega, rfl⟩
  rintro n s ⟨i, rfl, h1, h2, h3⟩
  repeat' first
    | (refine And.intro ?_ ?_)
    | (intro h; cases h)
    | (intro h; rw [h])
    | (intro h)
  all_goals first
    | (show lowEdges _ = true; kernel_rfl) | (show logOk _ _ = true; kernel_rfl) | exact True.intro | exact rfl | exact Or.inr rfl | exact Or.inl rfl
    | omega
    | exact of_decide_eq_true ‹_›
    | (have := of_decide_eq_true ‹decide (i < (a.length : Int)) = true›; rw [fill_length (by omega)]; omega)
    | exact congrArg (fun z => [CV.sl true 36 z]) (fill_all h1 h2 ‹_›)
    | (have hi : i < (a.length : Int) := of_decide_eq_true ‹_›
       have hk : i.toNat < a.length := by omega
       have wr : WfRow T [.i .i64, .l 72] (a.getD i.toNat []) := wa.row rfl hk
       have hwr := wRow_le hk
       first
         | exact ⟨_, wr, by rw [wRow_rowC wr]; omega, rfl⟩
         | exact ⟨_, wr, Nat.lt_of_lt_of_le (size_row hk) (Nat.le_of_lt_succ hs), by rw [wRow_rowC wr]; omega, rfl⟩
         | (refine ⟨a.length - (i + 1).toNat, by omega, i + 1, ?_, by omega, by omega, rfl⟩
            have e1 := fill_next (z := ([.i .i64, .l 54].map zeroD)) h1 hi (by rw [csD_rowC wr, wr.1]; rfl) (csD_rowC wr)
            have e2 : IntKind.i64.wrap (i + 1) = i + 1 := wrap_next h1 hi (Nat.le_trans la (by decide))
            exact (congrArg (fun z => (([argS 33 a, .val false [.sl true 36 z], .val false [.i .i64 (IntKind.i64.wrap (i + 1))]], []) : Snap)) e1).trans (congrArg (fun z => (([argS 33 a, .val false [.sl true 36 (fill a ([.i .i64, .l 54].map zeroD) (i + 1).toNat)], .val false [.i .i64 z]], []) : Snap)) e2)))
end Go.Proofs.YtaecbmjmcpdgdaaGreat.Ab
