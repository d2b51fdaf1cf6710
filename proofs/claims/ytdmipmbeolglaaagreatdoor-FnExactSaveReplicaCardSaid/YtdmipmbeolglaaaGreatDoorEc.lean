/- Copies: printed by a program of this claim. -/
import Derived.Test.YtdmipmbeolglaaaGreatDoorEw
namespace Go.Proofs.YtdmipmbeolglaaaGreatDoor.Ab
open Go.RowKit
set_option linter.unusedVariables false
set_option linter.unusedSimpArgs false
set_option maxRecDepth 100000
set_option maxHeartbeats 1000000
/-- laws.toIntS -/
theorem ok33 : FOk Tryz.prog T 33 (toS 3 3) := by
  refine fok (env := envL []) (N := 22) tabT envL_nil mixed Tryz.func33 rfl Tryz.call33 Tryz.ntmps33 ?_
  rintro args ⟨a, hw, rfl⟩ hwf
  have wa : WfD T (.l 3) (.l a) := arg0 hwf (List.mem_singleton_self _)
  clear hwf
  have la : a.length ≤ 1048576 := by omega
  refine ⟨by simp, ?_⟩
  rw [Tryz.results33]
  repeat' first
    | (refine And.intro ?_ ?_)
    | (intro h; cases h)
    | (intro h; rw [h])
    | (intro h)
  all_goals first
    | (show lowEdges _ = true; kernel_rfl) | (show logOk _ _ = true; kernel_rfl) | exact True.intro | exact rfl | exact Or.inr rfl | exact Or.inl rfl
    | rfl
    | (simp only [Ty.bytes]; omega)
    | omega
    | skip
  refine awp_loop (Q := _) [0, 3, 4] [] (fun n s => ∃ i : Int, s = ([argS 3 a, .val false [.sl true 3 (fill a ([.i .i64].map zeroD) i.toNat)], .val false [.i .i64 i]], []) ∧ 0 ≤ i ∧ i ≤ a.length ∧ n = a.length - i.toNat) ?_ ?_
  · exact ⟨rfl, a.length - 0, 0, congrArg (fun z => (([argS 3 a, .val false [.sl true 3 z], .val false [.i .i64 0]], []) : Snap)) (fill_zero a _).symm, by omega, by omega, rfl⟩
  rintro n s ⟨i, rfl, h1, h2, h3⟩
  repeat' first
    | (refine And.intro ?_ ?_)
    | (intro h; cases h)
    | (intro h; rw [h])
    | (intro h)
  all_goals first
    | (show lowEdges _ = true; kernel_rfl) | (show logOk _ _ = true; kernel_rfl) | exact True.intro | exact rfl | exact Or.inr rfl | exact Or.inl rfl
    | omega
    | exact of_decide_eq_true ‹_›
    | (have := of_decide_eq_true ‹decide (i < (a.length : Int)) = true›; rw [fill_length (by omega)]; omega)
    | exact congrArg (fun z => [CV.sl false 3 z]) (fill_all h1 h2 ‹_›)
    | (have hi : i < (a.length : Int) := of_decide_eq_true ‹_›
       have hk : i.toNat < a.length := by omega
       have wr : WfRow T [.i .i64] (a.getD i.toNat []) := wa.row rfl hk
       have hwr := wRow_le hk
       first
         | exact ⟨_, wr, by rw [wRow_rowC wr]; omega, rfl⟩
         | exact ⟨_, wr, Nat.lt_of_lt_of_le (size_row hk) (Nat.le_of_lt_succ hs), by rw [wRow_rowC wr]; omega, rfl⟩
         | (refine ⟨a.length - (i + 1).toNat, by omega, i + 1, ?_, by omega, by omega, rfl⟩
            have e1 := fill_next (z := ([.i .i64].map zeroD)) h1 hi (by rw [csD_rowC wr, wr.1]; rfl) (csD_rowC wr)
            have e2 : IntKind.i64.wrap (i + 1) = i + 1 := wrap_next h1 hi (Nat.le_trans la (by decide))
            exact (congrArg (fun z => (([argS 3 a, .val false [.sl true 3 z], .val false [.i .i64 (IntKind.i64.wrap (i + 1))]], []) : Snap)) e1).trans (congrArg (fun z => (([argS 3 a, .val false [.sl true 3 (fill a ([.i .i64].map zeroD) (i + 1).toNat)], .val false [.i .i64 z]], []) : Snap)) e2)))
/-- laws.toCell -/
theorem ok61 : FOk Tryz.prog T 61 (toG T [.i .i64, .i .i64, .i .i64, .s, .s, .i .i64] [.i .i64, .i .i64, .i .i64, .s, .s, .i .i64]) := by
  refine fok (env := envL []) (N := 23) tabT envL_nil mixed Tryz.func61 rfl Tryz.call61 Tryz.ntmps61 ?_
  rintro args ⟨a, wa, hw, rfl⟩ hwf
  refine ⟨by simp, ?_⟩
  clear hwf
  rw [Tryz.results61]
  repeat' first
    | (refine And.intro ?_ ?_)
    | (intro h; cases h)
    | (intro h; rw [h])
    | (intro h)
  all_goals first
    | (show lowEdges _ = true; kernel_rfl) | (show logOk _ _ = true; kernel_rfl) | exact True.intro | exact rfl | exact Or.inr rfl | exact Or.inl rfl
    | rfl
    | exact ⟨sub a 0 1, wa.sub 0 1 (by decide), wSubC_le 0 1 wa (by decide) hw, rfl⟩
    | exact ⟨sub a 1 1, wa.sub 1 1 (by decide), wSubC_le 1 1 wa (by decide) hw, rfl⟩
    | exact ⟨sub a 2 1, wa.sub 2 1 (by decide), wSubC_le 2 1 wa (by decide) hw, rfl⟩
    | exact ⟨sub a 3 1, wa.sub 3 1 (by decide), wSubC_le 3 1 wa (by decide) hw, rfl⟩
    | exact ⟨sub a 4 1, wa.sub 4 1 (by decide), wSubC_le 4 1 wa (by decide) hw, rfl⟩
    | exact ⟨sub a 5 1, wa.sub 5 1 (by decide), wSubC_le 5 1 wa (by decide) hw, rfl⟩
    | rfl
/-- laws.toEdit -/
theorem ok34 : FOk Tryz.prog T 34 (toG T [.i .i64, .i .i64, .i .i64, .i .i64, .i .i64, .s, .s, .i .i64] [.i .i64, .i .i64, .i .i64, .i .i64, .i .i64, .s, .s, .i .i64]) := by
  refine fok (env := envL [(61, (toG T [.i .i64, .i .i64, .i .i64, .s, .s, .i .i64] [.i .i64, .i .i64, .i .i64, .s, .s, .i .i64]))]) (N := 15) tabT (envL_cons ok61 envL_nil) mixed Tryz.func34 rfl Tryz.call34 Tryz.ntmps34 ?_
  rintro args ⟨a, wa, hw, rfl⟩ hwf
  refine ⟨by simp, ?_⟩
  clear hwf
  rw [Tryz.results34]
  repeat' first
    | (refine And.intro ?_ ?_)
    | (intro h; cases h)
    | (intro h; rw [h])
    | (intro h)
  all_goals first
    | (show lowEdges _ = true; kernel_rfl) | (show logOk _ _ = true; kernel_rfl) | exact True.intro | exact rfl | exact Or.inr rfl | exact Or.inl rfl
    | rfl
    | exact ⟨sub a 2 6, wa.sub 2 6 (by decide), wSubC_le 2 6 wa (by decide) hw, rfl⟩
    | exact ⟨sub a 0 1, wa.sub 0 1 (by decide), wSubC_le 0 1 wa (by decide) hw, rfl⟩
    | exact ⟨sub a 1 1, wa.sub 1 1 (by decide), wSubC_le 1 1 wa (by decide) hw, rfl⟩
    | rfl
/-- laws.toStringS -/
theorem ok101 : FOk Tryz.prog T 101 (toS 9 9) := by
  refine fok (env := envL []) (N := 22) tabT envL_nil mixed Tryz.func101 rfl Tryz.call101 Tryz.ntmps101 ?_
  rintro args ⟨a, hw, rfl⟩ hwf
  have wa : WfD T (.l 9) (.l a) := arg0 hwf (List.mem_singleton_self _)
  clear hwf
  have la : a.length ≤ 1048576 := by omega
  refine ⟨by simp, ?_⟩
  rw [Tryz.results101]
  repeat' first
    | (refine And.intro ?_ ?_)
    | (intro h; cases h)
    | (intro h; rw [h])
    | (intro h)
  all_goals first
    | (show lowEdges _ = true; kernel_rfl) | (show logOk _ _ = true; kernel_rfl) | exact True.intro | exact rfl | exact Or.inr rfl | exact Or.inl rfl
    | rfl
    | (simp only [Ty.bytes]; omega)
    | omega
    | skip
  refine awp_loop (Q := _) [0, 3, 4] [] (fun n s => ∃ i : Int, s = ([argS 9 a, .val false [.sl true 9 (fill a ([.s].map zeroD) i.toNat)], .val false [.i .i64 i]], []) ∧ 0 ≤ i ∧ i ≤ a.length ∧ n = a.length - i.toNat) ?_ ?_
  · exact ⟨rfl, a.length - 0, 0, congrArg (fun z => (([argS 9 a, .val false [.sl true 9 z], .val false [.i .i64 0]], []) : Snap)) (fill_zero a _).symm, by omega, by omega, rfl⟩
  rintro n s ⟨i, rfl, h1, h2, h3⟩
  repeat' first
    | (refine And.intro ?_ ?_)
    | (intro h; cases h)
    | (intro h; rw [h])
    | (intro h)
  all_goals first
    | (show lowEdges _ = true; kernel_rfl) | (show logOk _ _ = true; kernel_rfl) | exact True.intro | exact rfl | exact Or.inr rfl | exact Or.inl rfl
    | omega
    | exact of_decide_eq_true ‹_›
    | (have := of_decide_eq_true ‹decide (i < (a.length : Int)) = true›; rw [fill_length (by omega)]; omega)
    | exact congrArg (fun z => [CV.sl false 9 z]) (fill_all h1 h2 ‹_›)
    | (have hi : i < (a.length : Int) := of_decide_eq_true ‹_›
       have hk : i.toNat < a.length := by omega
       have wr : WfRow T [.s] (a.getD i.toNat []) := wa.row rfl hk
       have hwr := wRow_le hk
       first
         | exact ⟨_, wr, by rw [wRow_rowC wr]; omega, rfl⟩
         | exact ⟨_, wr, Nat.lt_of_lt_of_le (size_row hk) (Nat.le_of_lt_succ hs), by rw [wRow_rowC wr]; omega, rfl⟩
         | (refine ⟨a.length - (i + 1).toNat, by omega, i + 1, ?_, by omega, by omega, rfl⟩
            have e1 := fill_next (z := ([.s].map zeroD)) h1 hi (by rw [csD_rowC wr, wr.1]; rfl) (csD_rowC wr)
            have e2 : IntKind.i64.wrap (i + 1) = i + 1 := wrap_next h1 hi (Nat.le_trans la (by decide))
            exact (congrArg (fun z => (([argS 9 a, .val false [.sl true 9 z], .val false [.i .i64 (IntKind.i64.wrap (i + 1))]], []) : Snap)) e1).trans (congrArg (fun z => (([argS 9 a, .val false [.sl true 9 (fill a ([.s].map zeroD) (i + 1).toNat)], .val false [.i .i64 z]], []) : Snap)) e2)))
/-- laws.toOrigin -/
theorem ok142 : FOk Tryz.prog T 142 (toG T [.i .i64, .i .i64] [.i .i64, .i .i64]) := by
  refine fok (env := envL []) (N := 11) tabT envL_nil mixed Tryz.func142 rfl Tryz.call142 Tryz.ntmps142 ?_
  rintro args ⟨a, wa, hw, rfl⟩ hwf
  refine ⟨by simp, ?_⟩
  clear hwf
  rw [Tryz.results142]
  repeat' first
    | (refine And.intro ?_ ?_)
    | (intro h; cases h)
    | (intro h; rw [h])
    | (intro h)
  all_goals first
    | (show lowEdges _ = true; kernel_rfl) | (show logOk _ _ = true; kernel_rfl) | exact True.intro | exact rfl | exact Or.inr rfl | exact Or.inl rfl
    | rfl
    | exact ⟨sub a 0 1, wa.sub 0 1 (by decide), wSubC_le 0 1 wa (by decide) hw, rfl⟩
    | exact ⟨sub a 1 1, wa.sub 1 1 (by decide), wSubC_le 1 1 wa (by decide) hw, rfl⟩
    | rfl
/-- laws.toOriginS -/
theorem ok133 : FOk Tryz.prog T 133 (toS 178 125) := by
  refine fok (env := envL [(142, (toG T [.i .i64, .i .i64] [.i .i64, .i .i64]))]) (N := 23) tabT (envL_cons ok142 envL_nil) mixed Tryz.func133 rfl Tryz.call133 Tryz.ntmps133 ?_
  rintro args ⟨a, hw, rfl⟩ hwf
  have wa : WfD T (.l 178) (.l a) := arg0 hwf (List.mem_singleton_self _)
  clear hwf
  have la : a.length ≤ 1048576 := by omega
  refine ⟨by simp, ?_⟩
  rw [Tryz.results133]
  repeat' first
    | (refine And.intro ?_ ?_)
    | (intro h; cases h)
    | (intro h; rw [h])
    | (intro h)
  all_goals first
    | (show lowEdges _ = true; kernel_rfl) | (show logOk _ _ = true; kernel_rfl) | exact True.intro | exact rfl | exact Or.inr rfl | exact Or.inl rfl
    | rfl
    | (simp only [Ty.bytes]; omega)
    | omega
    | skip
  refine awp_loop (Q := _) [0, 3, 4] [] (fun n s => ∃ i : Int, s = ([argS 178 a, .val false [.sl true 125 (fill a ([.i .i64, .i .i64].map zeroD) i.toNat)], .val false [.i .i64 i]], []) ∧ 0 ≤ i ∧ i ≤ a.length ∧ n = a.length - i.toNat) ?_ ?_
  · exact ⟨rfl, a.length - 0, 0, congrArg (fun z => (([argS 178 a, .val false [.sl true 125 z], .val false [.i .i64 0]], []) : Snap)) (fill_zero a _).symm, by omega, by omega, rfl⟩
  rintro n s ⟨i, rfl, h1, h2, h3⟩
  repeat' first
    | (refine And.intro ?_ ?_)
    | (intro h; cases h)
    | (intro h; rw [h])
    | (intro h)
  all_goals first
    | (show lowEdges _ = true; kernel_rfl) | (show logOk _ _ = true; kernel_rfl) | exact True.intro | exact rfl | exact Or.inr rfl | exact Or.inl rfl
    | omega
    | exact of_decide_eq_true ‹_›
    | (have := of_decide_eq_true ‹decide (i < (a.length : Int)) = true›; rw [fill_length (by omega)]; omega)
    | exact congrArg (fun z => [CV.sl false 125 z]) (fill_all h1 h2 ‹_›)
    | (have hi : i < (a.length : Int) := of_decide_eq_true ‹_›
       have hk : i.toNat < a.length := by omega
       have wr : WfRow T [.i .i64, .i .i64] (a.getD i.toNat []) := wa.row rfl hk
       have hwr := wRow_le hk
       first
         | exact ⟨_, wr, by rw [wRow_rowC wr]; omega, rfl⟩
         | exact ⟨_, wr, Nat.lt_of_lt_of_le (size_row hk) (Nat.le_of_lt_succ hs), by rw [wRow_rowC wr]; omega, rfl⟩
         | (refine ⟨a.length - (i + 1).toNat, by omega, i + 1, ?_, by omega, by omega, rfl⟩
            have e1 := fill_next (z := ([.i .i64, .i .i64].map zeroD)) h1 hi (by rw [csD_rowC wr, wr.1]; rfl) (csD_rowC wr)
            have e2 : IntKind.i64.wrap (i + 1) = i + 1 := wrap_next h1 hi (Nat.le_trans la (by decide))
            exact (congrArg (fun z => (([argS 178 a, .val false [.sl true 125 z], .val false [.i .i64 (IntKind.i64.wrap (i + 1))]], []) : Snap)) e1).trans (congrArg (fun z => (([argS 178 a, .val false [.sl true 125 (fill a ([.i .i64, .i .i64].map zeroD) (i + 1).toNat)], .val false [.i .i64 z]], []) : Snap)) e2)))
/-- laws.toRow -/
theorem ok118 : FOk Tryz.prog T 118 (toG T [.l 3, .l 178] [.l 3, .l 125]) := by
  refine fok (env := envL [(33, (toS 3 3)), (133, (toS 178 125))]) (N := 13) tabT (envL_cons ok33 (envL_cons ok133 envL_nil)) mixed Tryz.func118 rfl Tryz.call118 Tryz.ntmps118 ?_
  rintro args ⟨a, wa, hw, rfl⟩ hwf
  refine ⟨by simp, ?_⟩
  clear hwf
  rw [Tryz.results118]
  repeat' first
    | (refine And.intro ?_ ?_)
    | (intro h; cases h)
    | (intro h; rw [h])
    | (intro h)
  all_goals first
    | (show lowEdges _ = true; kernel_rfl) | (show logOk _ _ = true; kernel_rfl) | exact True.intro | exact rfl | exact Or.inr rfl | exact Or.inl rfl
    | exact ⟨_, wCellC_le wa hw 0, rfl⟩
    | exact ⟨_, wCellC_le wa hw 1, rfl⟩
    | exact ⟨_, Nat.lt_of_lt_of_le (size_cell (by rw [wa.1]; decide)) (Nat.le_of_lt_succ hs), wCellC_le wa hw 0, rfl⟩
    | exact ⟨_, Nat.lt_of_lt_of_le (size_cell (by rw [wa.1]; decide)) (Nat.le_of_lt_succ hs), wCellC_le wa hw 1, rfl⟩
    | exact ⟨sub a 0 1, wa.sub 0 1 (by decide), wSubC_le 0 1 wa (by decide) hw, rfl⟩
    | exact ⟨sub a 1 1, wa.sub 1 1 (by decide), wSubC_le 1 1 wa (by decide) hw, rfl⟩
    | rfl
/-- laws.toRowS -/
theorem ok102 : FOk Tryz.prog T 102 (toS 155 112) := by
  refine fok (env := envL [(118, (toG T [.l 3, .l 178] [.l 3, .l 125]))]) (N := 23) tabT (envL_cons ok118 envL_nil) mixed Tryz.func102 rfl Tryz.call102 Tryz.ntmps102 ?_
  rintro args ⟨a, hw, rfl⟩ hwf
  have wa : WfD T (.l 155) (.l a) := arg0 hwf (List.mem_singleton_self _)
  clear hwf
  have la : a.length ≤ 1048576 := by omega
  refine ⟨by simp, ?_⟩
  rw [Tryz.results102]
  repeat' first
    | (refine And.intro ?_ ?_)
    | (intro h; cases h)
    | (intro h; rw [h])
    | (intro h)
  all_goals first
    | (show lowEdges _ = true; kernel_rfl) | (show logOk _ _ = true; kernel_rfl) | exact True.intro | exact rfl | exact Or.inr rfl | exact Or.inl rfl
    | rfl
    | (simp only [Ty.bytes]; omega)
    | omega
    | skip
  refine awp_loop (Q := _) [0, 3, 4] [] (fun n s => ∃ i : Int, s = ([argS 155 a, .val false [.sl true 112 (fill a ([.l 3, .l 125].map zeroD) i.toNat)], .val false [.i .i64 i]], []) ∧ 0 ≤ i ∧ i ≤ a.length ∧ n = a.length - i.toNat) ?_ ?_
  · exact ⟨rfl, a.length - 0, 0, congrArg (fun z => (([argS 155 a, .val false [.sl true 112 z], .val false [.i .i64 0]], []) : Snap)) (fill_zero a _).symm, by omega, by omega, rfl⟩
  rintro n s ⟨i, rfl, h1, h2, h3⟩
  repeat' first
    | (refine And.intro ?_ ?_)
    | (intro h; cases h)
    | (intro h; rw [h])
    | (intro h)
  all_goals first
    | (show lowEdges _ = true; kernel_rfl) | (show logOk _ _ = true; kernel_rfl) | exact True.intro | exact rfl | exact Or.inr rfl | exact Or.inl rfl
    | omega
    | exact of_decide_eq_true ‹_›
    | (have := of_decide_eq_true ‹decide (i < (a.length : Int)) = true›; rw [fill_length (by omega)]; omega)
    | exact congrArg (fun z => [CV.sl false 112 z]) (fill_all h1 h2 ‹_›)
    | (have hi : i < (a.length : Int) := of_decide_eq_true ‹_›
       have hk : i.toNat < a.length := by omega
       have wr : WfRow T [.l 3, .l 178] (a.getD i.toNat []) := wa.row rfl hk
       have hwr := wRow_le hk
       first
         | exact ⟨_, wr, by rw [wRow_rowC wr]; omega, rfl⟩
         | exact ⟨_, wr, Nat.lt_of_lt_of_le (size_row hk) (Nat.le_of_lt_succ hs), by rw [wRow_rowC wr]; omega, rfl⟩
         | (refine ⟨a.length - (i + 1).toNat, by omega, i + 1, ?_, by omega, by omega, rfl⟩
            have e1 := fill_next (z := ([.l 3, .l 125].map zeroD)) h1 hi (by rw [csD_rowC wr, wr.1]; rfl) (csD_rowC wr)
            have e2 : IntKind.i64.wrap (i + 1) = i + 1 := wrap_next h1 hi (Nat.le_trans la (by decide))
            exact (congrArg (fun z => (([argS 155 a, .val false [.sl true 112 z], .val false [.i .i64 (IntKind.i64.wrap (i + 1))]], []) : Snap)) e1).trans (congrArg (fun z => (([argS 155 a, .val false [.sl true 112 (fill a ([.l 3, .l 125].map zeroD) (i + 1).toNat)], .val false [.i .i64 z]], []) : Snap)) e2)))
/-- laws.toValue -/
theorem step83 (n : Nat) (hn : FOk Tryz.prog T 100 (toSn 100 72 n)) : FOk Tryz.prog T 83 (toGn T [.i .i64, .i .i64, .i .i64, .s, .l 100, .l 9, .l 155] [.i .i64, .i .i64, .i .i64, .s, .l 72, .l 9, .l 112] (n + 1)) := by
  refine fok (env := envL [(100, (toSn 100 72 n)), (101, (toS 9 9)), (102, (toS 155 112))]) (N := 29) tabT (envL_cons hn (envL_cons ok101 (envL_cons ok102 envL_nil))) mixed Tryz.func83 rfl Tryz.call83 Tryz.ntmps83 ?_
  rintro args ⟨a, wa, hs, hw, rfl⟩ hwf
  refine ⟨by simp, ?_⟩
  clear hwf
  rw [Tryz.results83]
  repeat' first
    | (refine And.intro ?_ ?_)
    | (intro h; cases h)
    | (intro h; rw [h])
    | (intro h)
  all_goals first
    | (show lowEdges _ = true; kernel_rfl) | (show logOk _ _ = true; kernel_rfl) | exact True.intro | exact rfl | exact Or.inr rfl | exact Or.inl rfl
    | exact ⟨_, wCellC_le wa hw 4, rfl⟩
    | exact ⟨_, wCellC_le wa hw 5, rfl⟩
    | exact ⟨_, wCellC_le wa hw 6, rfl⟩
    | exact ⟨_, Nat.lt_of_lt_of_le (size_cell (by rw [wa.1]; decide)) (Nat.le_of_lt_succ hs), wCellC_le wa hw 4, rfl⟩
    | exact ⟨_, Nat.lt_of_lt_of_le (size_cell (by rw [wa.1]; decide)) (Nat.le_of_lt_succ hs), wCellC_le wa hw 5, rfl⟩
    | exact ⟨_, Nat.lt_of_lt_of_le (size_cell (by rw [wa.1]; decide)) (Nat.le_of_lt_succ hs), wCellC_le wa hw 6, rfl⟩
    | exact ⟨sub a 0 1, wa.sub 0 1 (by decide), wSubC_le 0 1 wa (by decide) hw, rfl⟩
    | exact ⟨sub a 1 1, wa.sub 1 1 (by decide), wSubC_le 1 1 wa (by decide) hw, rfl⟩
    | exact ⟨sub a 2 1, wa.sub 2 1 (by decide), wSubC_le 2 1 wa (by decide) hw, rfl⟩
    | exact ⟨sub a 3 1, wa.sub 3 1 (by decide), wSubC_le 3 1 wa (by decide) hw, rfl⟩
    | exact ⟨sub a 4 1, wa.sub 4 1 (by decide), wSubC_le 4 1 wa (by decide) hw, rfl⟩
    | exact ⟨sub a 5 1, wa.sub 5 1 (by decide), wSubC_le 5 1 wa (by decide) hw, rfl⟩
    | exact ⟨sub a 6 1, wa.sub 6 1 (by decide), wSubC_le 6 1 wa (by decide) hw, rfl⟩
    | rfl
/-- laws.toValueS -/
theorem step100 (n : Nat) (hn : FOk Tryz.prog T 83 (toGn T [.i .i64, .i .i64, .i .i64, .s, .l 100, .l 9, .l 155] [.i .i64, .i .i64, .i .i64, .s, .l 72, .l 9, .l 112] n)) : FOk Tryz.prog T 100 (toSn 100 72 (n + 1)) := by
  refine fok (env := envL [(83, (toGn T [.i .i64, .i .i64, .i .i64, .s, .l 100, .l 9, .l 155] [.i .i64, .i .i64, .i .i64, .s, .l 72, .l 9, .l 112] n))]) (N := 23) tabT (envL_cons hn envL_nil) mixed Tryz.func100 rfl Tryz.call100 Tryz.ntmps100 ?_
  rintro args ⟨a, hs, hw, rfl⟩ hwf
  have wa : WfD T (.l 100) (.l a) := arg0 hwf (List.mem_singleton_self _)
  clear hwf
  have la : a.length ≤ 1048576 := by omega
  refine ⟨by simp, ?_⟩
  rw [Tryz.results100]
  repeat' first
    | (refine And.intro ?_ ?_)
    | (intro h; cases h)
    | (intro h; rw [h])
    | (intro h)
  all_goals first
    | (show lowEdges _ = true; kernel_rfl) | (show logOk _ _ = true; kernel_rfl) | exact True.intro | exact rfl | exact Or.inr rfl | exact Or.inl rfl
    | rfl
    | (simp only [Ty.bytes]; omega)
    | omega
    | skip
  refine awp_loop (Q := _) [0, 3, 4] [] (fun n s => ∃ i : Int, s = ([argS 100 a, .val false [.sl true 72 (fill a ([.i .i64, .i .i64, .i .i64, .s, .l 72, .l 9, .l 112].map zeroD) i.toNat)], .val false [.i .i64 i]], []) ∧ 0 ≤ i ∧ i ≤ a.length ∧ n = a.length - i.toNat) ?_ ?_
  · exact ⟨rfl, a.length - 0, 0, congrArg (fun z => (([argS 100 a, .val false [.sl true 72 z], .val false [.i .i64 0]], []) : Snap)) (fill_zero a _).symm, by omega, by omega, rfl⟩
  rintro n s ⟨i, rfl, h1, h2, h3⟩
  repeat' first
    | (refine And.intro ?_ ?_)
    | (intro h; cases h)
    | (intro h; rw [h])
    | (intro h)
  all_goals first
    | (show lowEdges _ = true; kernel_rfl) | (show logOk _ _ = true; kernel_rfl) | exact True.intro | exact rfl | exact Or.inr rfl | exact Or.inl rfl
    | omega
    | exact of_decide_eq_true ‹_›
    | (have := of_decide_eq_true ‹decide (i < (a.length : Int)) = true›; rw [fill_length (by omega)]; omega)
    | exact congrArg (fun z => [CV.sl false 72 z]) (fill_all h1 h2 ‹_›)
    | (have hi : i < (a.length : Int) := of_decide_eq_true ‹_›
       have hk : i.toNat < a.length := by omega
       have wr : WfRow T [.i .i64, .i .i64, .i .i64, .s, .l 100, .l 9, .l 155] (a.getD i.toNat []) := wa.row rfl hk
       have hwr := wRow_le hk
       first
         | exact ⟨_, wr, by rw [wRow_rowC wr]; omega, rfl⟩
         | exact ⟨_, wr, Nat.lt_of_lt_of_le (size_row hk) (Nat.le_of_lt_succ hs), by rw [wRow_rowC wr]; omega, rfl⟩
         | (refine ⟨a.length - (i + 1).toNat, by omega, i + 1, ?_, by omega, by omega, rfl⟩
            have e1 := fill_next (z := ([.i .i64, .i .i64, .i .i64, .s, .l 72, .l 9, .l 112].map zeroD)) h1 hi (by rw [csD_rowC wr, wr.1]; rfl) (csD_rowC wr)
            have e2 : IntKind.i64.wrap (i + 1) = i + 1 := wrap_next h1 hi (Nat.le_trans la (by decide))
            exact (congrArg (fun z => (([argS 100 a, .val false [.sl true 72 z], .val false [.i .i64 (IntKind.i64.wrap (i + 1))]], []) : Snap)) e1).trans (congrArg (fun z => (([argS 100 a, .val false [.sl true 72 (fill a ([.i .i64, .i .i64, .i .i64, .s, .l 72, .l 9, .l 112].map zeroD) (i + 1).toNat)], .val false [.i .i64 z]], []) : Snap)) e2)))
theorem zero83 : FOk Tryz.prog T 83 (toGn T [.i .i64, .i .i64, .i .i64, .s, .l 100, .l 9, .l 155] [.i .i64, .i .i64, .i .i64, .s, .l 72, .l 9, .l 112] 0) := by
  refine fok (env := envL []) (N := 29) tabT envL_nil mixed Tryz.func83 rfl Tryz.call83 Tryz.ntmps83 ?_
  rintro args ⟨a, wa, hs, hw, rfl⟩ _
  exact absurd hs (Nat.not_lt_zero _)
theorem zero100 : FOk Tryz.prog T 100 (toSn 100 72 0) := by
  refine fok (env := envL []) (N := 23) tabT envL_nil mixed Tryz.func100 rfl Tryz.call100 Tryz.ntmps100 ?_
  rintro args ⟨a, hs, hw, rfl⟩ _
  exact absurd hs (Nat.not_lt_zero _)
theorem both83 (n : Nat) : FOk Tryz.prog T 83 (toGn T [.i .i64, .i .i64, .i .i64, .s, .l 100, .l 9, .l 155] [.i .i64, .i .i64, .i .i64, .s, .l 72, .l 9, .l 112] n) ∧ FOk Tryz.prog T 100 (toSn 100 72 n) := by
  induction n with
  | zero => exact ⟨zero83, zero100⟩
  | succ n ih => exact ⟨step83 n ih.2, step100 n ih.1⟩
theorem ok83 : FOk Tryz.prog T 83 (toG T [.i .i64, .i .i64, .i .i64, .s, .l 100, .l 9, .l 155] [.i .i64, .i .i64, .i .i64, .s, .l 72, .l 9, .l 112]) := FOk.lift (s := fun n => (toGn T [.i .i64, .i .i64, .i .i64, .s, .l 100, .l 9, .l 155] [.i .i64, .i .i64, .i .i64, .s, .l 72, .l 9, .l 112] n)) (fun n => (both83 n).1) (fun args ⟨a, wa, hw, h⟩ => ⟨SizeOf.sizeOf a + 1, a, wa, Nat.lt_succ_self _, hw, h⟩) (fun n => rfl)
theorem ok100 : FOk Tryz.prog T 100 (toS 100 72) := FOk.lift (s := fun n => (toSn 100 72 n)) (fun n => (both83 n).2) (fun args ⟨a, hw, h⟩ => ⟨SizeOf.sizeOf a + 1, a, Nat.lt_succ_self _, hw, h⟩) (fun n => rfl)
/-- laws.toRead -/
theorem ok62 : FOk Tryz.prog T 62 (toG T [.i .i64, .i .i64, .i .i64, .s, .i .i64, .i .i64, .i .i64, .s, .l 100, .l 9, .l 155] [.i .i64, .i .i64, .i .i64, .s, .i .i64, .i .i64, .i .i64, .s, .l 72, .l 9, .l 112]) := by
  refine fok (env := envL [(83, (toG T [.i .i64, .i .i64, .i .i64, .s, .l 100, .l 9, .l 155] [.i .i64, .i .i64, .i .i64, .s, .l 72, .l 9, .l 112]))]) (N := 21) tabT (envL_cons ok83 envL_nil) mixed Tryz.func62 rfl Tryz.call62 Tryz.ntmps62 ?_
  rintro args ⟨a, wa, hw, rfl⟩ hwf
  refine ⟨by simp, ?_⟩
  clear hwf
  rw [Tryz.results62]
  repeat' first
    | (refine And.intro ?_ ?_)
    | (intro h; cases h)
    | (intro h; rw [h])
    | (intro h)
  all_goals first
    | (show lowEdges _ = true; kernel_rfl) | (show logOk _ _ = true; kernel_rfl) | exact True.intro | exact rfl | exact Or.inr rfl | exact Or.inl rfl
    | exact ⟨_, wCellC_le wa hw 8, rfl⟩
    | exact ⟨_, wCellC_le wa hw 9, rfl⟩
    | exact ⟨_, wCellC_le wa hw 10, rfl⟩
    | exact ⟨_, Nat.lt_of_lt_of_le (size_cell (by rw [wa.1]; decide)) (Nat.le_of_lt_succ hs), wCellC_le wa hw 8, rfl⟩
    | exact ⟨_, Nat.lt_of_lt_of_le (size_cell (by rw [wa.1]; decide)) (Nat.le_of_lt_succ hs), wCellC_le wa hw 9, rfl⟩
    | exact ⟨_, Nat.lt_of_lt_of_le (size_cell (by rw [wa.1]; decide)) (Nat.le_of_lt_succ hs), wCellC_le wa hw 10, rfl⟩
    | exact ⟨sub a 4 7, wa.sub 4 7 (by decide), wSubC_le 4 7 wa (by decide) hw, rfl⟩
    | exact ⟨sub a 0 1, wa.sub 0 1 (by decide), wSubC_le 0 1 wa (by decide) hw, rfl⟩
    | exact ⟨sub a 1 1, wa.sub 1 1 (by decide), wSubC_le 1 1 wa (by decide) hw, rfl⟩
    | exact ⟨sub a 2 1, wa.sub 2 1 (by decide), wSubC_le 2 1 wa (by decide) hw, rfl⟩
    | exact ⟨sub a 3 1, wa.sub 3 1 (by decide), wSubC_le 3 1 wa (by decide) hw, rfl⟩
    | rfl
/-- laws.toReadS -/
theorem ok35 : FOk Tryz.prog T 35 (toS 102 74) := by
  refine fok (env := envL [(62, (toG T [.i .i64, .i .i64, .i .i64, .s, .i .i64, .i .i64, .i .i64, .s, .l 100, .l 9, .l 155] [.i .i64, .i .i64, .i .i64, .s, .i .i64, .i .i64, .i .i64, .s, .l 72, .l 9, .l 112]))]) (N := 23) tabT (envL_cons ok62 envL_nil) mixed Tryz.func35 rfl Tryz.call35 Tryz.ntmps35 ?_
  rintro args ⟨a, hw, rfl⟩ hwf
  have wa : WfD T (.l 102) (.l a) := arg0 hwf (List.mem_singleton_self _)
  clear hwf
  have la : a.length ≤ 1048576 := by omega
  refine ⟨by simp, ?_⟩
  rw [Tryz.results35]
  repeat' first
    | (refine And.intro ?_ ?_)
    | (intro h; cases h)
    | (intro h; rw [h])
    | (intro h)
  all_goals first
    | (show lowEdges _ = true; kernel_rfl) | (show logOk _ _ = true; kernel_rfl) | exact True.intro | exact rfl | exact Or.inr rfl | exact Or.inl rfl
    | rfl
    | (simp only [Ty.bytes]; omega)
    | omega
    | skip
  refine awp_loop (Q := _) [0, 3, 4] [] (fun n s => ∃ i : Int, s = ([argS 102 a, .val false [.sl true 74 (fill a ([.i .i64, .i .i64, .i .i64, .s, .i .i64, .i .i64, .i .i64, .s, .l 72, .l 9, .l 112].map zeroD) i.toNat)], .val false [.i .i64 i]], []) ∧ 0 ≤ i ∧ i ≤ a.length ∧ n = a.length - i.toNat) ?_ ?_
  · exact ⟨rfl, a.length - 0, 0, congrArg (fun z => (([argS 102 a, .val false [.sl true 74 z], .val false [.i .i64 0]], []) : Snap)) (fill_zero a _).symm, by omega, by omega, rfl⟩
  rintro n s ⟨i, rfl, h1, h2, h3⟩
  repeat' first
    | (refine And.intro ?_ ?_)
    | (intro h; cases h)
    | (intro h; rw [h])
    | (intro h)
  all_goals first
    | (show lowEdges _ = true; kernel_rfl) | (show logOk _ _ = true; kernel_rfl) | exact True.intro | exact rfl | exact Or.inr rfl | exact Or.inl rfl
    | omega
    | exact of_decide_eq_true ‹_›
    | (have := of_decide_eq_true ‹decide (i < (a.length : Int)) = true›; rw [fill_length (by omega)]; omega)
    | exact congrArg (fun z => [CV.sl false 74 z]) (fill_all h1 h2 ‹_›)
    | (have hi : i < (a.length : Int) := of_decide_eq_true ‹_›
       have hk : i.toNat < a.length := by omega
       have wr : WfRow T [.i .i64, .i .i64, .i .i64, .s, .i .i64, .i .i64, .i .i64, .s, .l 100, .l 9, .l 155] (a.getD i.toNat []) := wa.row rfl hk
       have hwr := wRow_le hk
       first
         | exact ⟨_, wr, by rw [wRow_rowC wr]; omega, rfl⟩
         | exact ⟨_, wr, Nat.lt_of_lt_of_le (size_row hk) (Nat.le_of_lt_succ hs), by rw [wRow_rowC wr]; omega, rfl⟩
         | (refine ⟨a.length - (i + 1).toNat, by omega, i + 1, ?_, by omega, by omega, rfl⟩
            have e1 := fill_next (z := ([.i .i64, .i .i64, .i .i64, .s, .i .i64, .i .i64, .i .i64, .s, .l 72, .l 9, .l 112].map zeroD)) h1 hi (by rw [csD_rowC wr, wr.1]; rfl) (csD_rowC wr)
            have e2 : IntKind.i64.wrap (i + 1) = i + 1 := wrap_next h1 hi (Nat.le_trans la (by decide))
            exact (congrArg (fun z => (([argS 102 a, .val false [.sl true 74 z], .val false [.i .i64 (IntKind.i64.wrap (i + 1))]], []) : Snap)) e1).trans (congrArg (fun z => (([argS 102 a, .val false [.sl true 74 (fill a ([.i .i64, .i .i64, .i .i64, .s, .i .i64, .i .i64, .i .i64, .s, .l 72, .l 9, .l 112].map zeroD) (i + 1).toNat)], .val false [.i .i64 z]], []) : Snap)) e2)))
/-- laws.toOp -/
theorem ok9 : FOk Tryz.prog T 9 (toG T [.i .i64, .i .i64, .i .i64, .l 3, .i .i64, .i .i64, .i .i64, .i .i64, .i .i64, .s, .s, .i .i64, .s, .s, .i .i64, .i .i64, .l 102] [.i .i64, .i .i64, .i .i64, .l 3, .i .i64, .i .i64, .i .i64, .i .i64, .i .i64, .s, .s, .i .i64, .s, .s, .i .i64, .i .i64, .l 74]) := by
  refine fok (env := envL [(33, (toS 3 3)), (34, (toG T [.i .i64, .i .i64, .i .i64, .i .i64, .i .i64, .s, .s, .i .i64] [.i .i64, .i .i64, .i .i64, .i .i64, .i .i64, .s, .s, .i .i64])), (35, (toS 102 74))]) (N := 38) tabT (envL_cons ok33 (envL_cons ok34 (envL_cons ok35 envL_nil))) mixed Tryz.func9 rfl Tryz.call9 Tryz.ntmps9 ?_
  rintro args ⟨a, wa, hw, rfl⟩ hwf
  refine ⟨by simp, ?_⟩
  clear hwf
  rw [Tryz.results9]
  repeat' first
    | (refine And.intro ?_ ?_)
    | (intro h; cases h)
    | (intro h; rw [h])
    | (intro h)
  all_goals first
    | (show lowEdges _ = true; kernel_rfl) | (show logOk _ _ = true; kernel_rfl) | exact True.intro | exact rfl | exact Or.inr rfl | exact Or.inl rfl
    | exact ⟨_, wCellC_le wa hw 3, rfl⟩
    | exact ⟨_, wCellC_le wa hw 16, rfl⟩
    | exact ⟨_, Nat.lt_of_lt_of_le (size_cell (by rw [wa.1]; decide)) (Nat.le_of_lt_succ hs), wCellC_le wa hw 3, rfl⟩
    | exact ⟨_, Nat.lt_of_lt_of_le (size_cell (by rw [wa.1]; decide)) (Nat.le_of_lt_succ hs), wCellC_le wa hw 16, rfl⟩
    | exact ⟨sub a 4 8, wa.sub 4 8 (by decide), wSubC_le 4 8 wa (by decide) hw, rfl⟩
    | exact ⟨sub a 0 1, wa.sub 0 1 (by decide), wSubC_le 0 1 wa (by decide) hw, rfl⟩
    | exact ⟨sub a 1 1, wa.sub 1 1 (by decide), wSubC_le 1 1 wa (by decide) hw, rfl⟩
    | exact ⟨sub a 2 1, wa.sub 2 1 (by decide), wSubC_le 2 1 wa (by decide) hw, rfl⟩
    | exact ⟨sub a 3 1, wa.sub 3 1 (by decide), wSubC_le 3 1 wa (by decide) hw, rfl⟩
    | exact ⟨sub a 12 1, wa.sub 12 1 (by decide), wSubC_le 12 1 wa (by decide) hw, rfl⟩
    | exact ⟨sub a 13 1, wa.sub 13 1 (by decide), wSubC_le 13 1 wa (by decide) hw, rfl⟩
    | exact ⟨sub a 14 1, wa.sub 14 1 (by decide), wSubC_le 14 1 wa (by decide) hw, rfl⟩
    | exact ⟨sub a 15 1, wa.sub 15 1 (by decide), wSubC_le 15 1 wa (by decide) hw, rfl⟩
    | exact ⟨sub a 16 1, wa.sub 16 1 (by decide), wSubC_le 16 1 wa (by decide) hw, rfl⟩
    | rfl
/-- laws.toStore -/
theorem ok16 : FOk Tryz.prog T 16 (toG T [.s, .i .i64] [.s, .i .i64]) := by
  refine fok (env := envL []) (N := 11) tabT envL_nil mixed Tryz.func16 rfl Tryz.call16 Tryz.ntmps16 ?_
  rintro args ⟨a, wa, hw, rfl⟩ hwf
  refine ⟨by simp, ?_⟩
  clear hwf
  rw [Tryz.results16]
  repeat' first
    | (refine And.intro ?_ ?_)
    | (intro h; cases h)
    | (intro h; rw [h])
    | (intro h)
  all_goals first
    | (show lowEdges _ = true; kernel_rfl) | (show logOk _ _ = true; kernel_rfl) | exact True.intro | exact rfl | exact Or.inr rfl | exact Or.inl rfl
    | rfl
    | exact ⟨sub a 0 1, wa.sub 0 1 (by decide), wSubC_le 0 1 wa (by decide) hw, rfl⟩
    | exact ⟨sub a 1 1, wa.sub 1 1 (by decide), wSubC_le 1 1 wa (by decide) hw, rfl⟩
    | rfl
/-- laws.toOpS -/
theorem ok52 : FOk Tryz.prog T 52 (toS 29 37) := by
  refine fok (env := envL [(9, (toG T [.i .i64, .i .i64, .i .i64, .l 3, .i .i64, .i .i64, .i .i64, .i .i64, .i .i64, .s, .s, .i .i64, .s, .s, .i .i64, .i .i64, .l 102] [.i .i64, .i .i64, .i .i64, .l 3, .i .i64, .i .i64, .i .i64, .i .i64, .i .i64, .s, .s, .i .i64, .s, .s, .i .i64, .i .i64, .l 74]))]) (N := 23) tabT (envL_cons ok9 envL_nil) mixed Tryz.func52 rfl Tryz.call52 Tryz.ntmps52 ?_
  rintro args ⟨a, hw, rfl⟩ hwf
  have wa : WfD T (.l 29) (.l a) := arg0 hwf (List.mem_singleton_self _)
  clear hwf
  have la : a.length ≤ 1048576 := by omega
  refine ⟨by simp, ?_⟩
  rw [Tryz.results52]
  repeat' first
    | (refine And.intro ?_ ?_)
    | (intro h; cases h)
    | (intro h; rw [h])
    | (intro h)
  all_goals first
    | (show lowEdges _ = true; kernel_rfl) | (show logOk _ _ = true; kernel_rfl) | exact True.intro | exact rfl | exact Or.inr rfl | exact Or.inl rfl
    | rfl
    | (simp only [Ty.bytes]; omega)
    | omega
    | skip
  refine awp_loop (Q := _) [0, 3, 4] [] (fun n s => ∃ i : Int, s = ([argS 29 a, .val false [.sl true 37 (fill a ([.i .i64, .i .i64, .i .i64, .l 3, .i .i64, .i .i64, .i .i64, .i .i64, .i .i64, .s, .s, .i .i64, .s, .s, .i .i64, .i .i64, .l 74].map zeroD) i.toNat)], .val false [.i .i64 i]], []) ∧ 0 ≤ i ∧ i ≤ a.length ∧ n = a.length - i.toNat) ?_ ?_
  · exact ⟨rfl, a.length - 0, 0, congrArg (fun z => (([argS 29 a, .val false [.sl true 37 z], .val false [.i .i64 0]], []) : Snap)) (fill_zero a _).symm, by omega, by omega, rfl⟩
  rintro n s ⟨i, rfl, h1, h2, h3⟩
  repeat' first
    | (refine And.intro ?_ ?_)
    | (intro h; cases h)
    | (intro h; rw [h])
    | (intro h)
  all_goals first
    | (show lowEdges _ = true; kernel_rfl) | (show logOk _ _ = true; kernel_rfl) | exact True.intro | exact rfl | exact Or.inr rfl | exact Or.inl rfl
    | omega
    | exact of_decide_eq_true ‹_›
    | (have := of_decide_eq_true ‹decide (i < (a.length : Int)) = true›; rw [fill_length (by omega)]; omega)
    | exact congrArg (fun z => [CV.sl false 37 z]) (fill_all h1 h2 ‹_›)
    | (have hi : i < (a.length : Int) := of_decide_eq_true ‹_›
       have hk : i.toNat < a.length := by omega
       have wr : WfRow T [.i .i64, .i .i64, .i .i64, .l 3, .i .i64, .i .i64, .i .i64, .i .i64, .i .i64, .s, .s, .i .i64, .s, .s, .i .i64, .i .i64, .l 102] (a.getD i.toNat []) := wa.row rfl hk
       have hwr := wRow_le hk
       first
         | exact ⟨_, wr, by rw [wRow_rowC wr]; omega, rfl⟩
         | exact ⟨_, wr, Nat.lt_of_lt_of_le (size_row hk) (Nat.le_of_lt_succ hs), by rw [wRow_rowC wr]; omega, rfl⟩
         | (refine ⟨a.length - (i + 1).toNat, by omega, i + 1, ?_, by omega, by omega, rfl⟩
            have e1 := fill_next (z := ([.i .i64, .i .i64, .i .i64, .l 3, .i .i64, .i .i64, .i .i64, .i .i64, .i .i64, .s, .s, .i .i64, .s, .s, .i .i64, .i .i64, .l 74].map zeroD)) h1 hi (by rw [csD_rowC wr, wr.1]; rfl) (csD_rowC wr)
            have e2 : IntKind.i64.wrap (i + 1) = i + 1 := wrap_next h1 hi (Nat.le_trans la (by decide))
            exact (congrArg (fun z => (([argS 29 a, .val false [.sl true 37 z], .val false [.i .i64 (IntKind.i64.wrap (i + 1))]], []) : Snap)) e1).trans (congrArg (fun z => (([argS 29 a, .val false [.sl true 37 (fill a ([.i .i64, .i .i64, .i .i64, .l 3, .i .i64, .i .i64, .i .i64, .i .i64, .i .i64, .s, .s, .i .i64, .s, .s, .i .i64, .i .i64, .l 74].map zeroD) (i + 1).toNat)], .val false [.i .i64 z]], []) : Snap)) e2)))
/-- laws.toReplica -/
theorem ok21 : FOk Tryz.prog T 21 (toG T [.i .i64, .l 29] [.i .i64, .l 37]) := by
  refine fok (env := envL [(52, (toS 29 37))]) (N := 12) tabT (envL_cons ok52 envL_nil) mixed Tryz.func21 rfl Tryz.call21 Tryz.ntmps21 ?_
  rintro args ⟨a, wa, hw, rfl⟩ hwf
  refine ⟨by simp, ?_⟩
  clear hwf
  rw [Tryz.results21]
  repeat' first
    | (refine And.intro ?_ ?_)
    | (intro h; cases h)
    | (intro h; rw [h])
    | (intro h)
  all_goals first
    | (show lowEdges _ = true; kernel_rfl) | (show logOk _ _ = true; kernel_rfl) | exact True.intro | exact rfl | exact Or.inr rfl | exact Or.inl rfl
    | exact ⟨_, wCellC_le wa hw 1, rfl⟩
    | exact ⟨_, Nat.lt_of_lt_of_le (size_cell (by rw [wa.1]; decide)) (Nat.le_of_lt_succ hs), wCellC_le wa hw 1, rfl⟩
    | exact ⟨sub a 0 1, wa.sub 0 1 (by decide), wSubC_le 0 1 wa (by decide) hw, rfl⟩
    | exact ⟨sub a 1 1, wa.sub 1 1 (by decide), wSubC_le 1 1 wa (by decide) hw, rfl⟩
    | rfl
end Go.Proofs.YtdmipmbeolglaaaGreatDoor.Ab
