/- The program's deep copies, owned in depth: printed by a program of this claim. -/
import Derived.Test.YtidjlboppokloaaCdO
namespace Go.Proofs.Ytidjlboppokloaa.Ab
open Go.RowKit
set_option linter.unusedVariables false
set_option linter.unusedSimpArgs false
set_option maxRecDepth 100000
set_option maxHeartbeats 1000000
/-- impl.copyRow -/
theorem po81 : FOk Try.prog Td 81 (cpGO T [.l 3, .l 142]) := by
  refine fok (env := envL []) (N := 12) tabTd envD_nil mixed Try.func81 rfl Try.call81 Try.ntmps81 ?_
  rintro args ⟨a, wa, hw, rfl⟩ hwf
  refine ⟨by simp, ?_⟩
  clear hwf
  rw [Try.results81]
  repeat' first
    | (refine And.intro ?_ ?_)
    | (intro h; simp only [reduceCtorEq] at h; done)
    | (intro h; rw [h])
    | (intro h)
  all_goals first
    | (show lowEdges _ = true; kernel_rfl) | (show logOk _ _ = true; kernel_rfl) | exact True.intro | exact Or.inr rfl | exact Or.inl rfl
    | exact ⟨_, wCellR_le hw 0, rfl⟩
    | exact ⟨_, wCellR_le hw 1, rfl⟩
    | (have q := wCellR_le hw 0; show 0 + (a.getD 0 default).rows.length ≤ maxLen; simp only [maxLen]; omega)
    | (have q := wCellR_le hw 1; show 0 + (a.getD 1 default).rows.length ≤ maxLen; simp only [maxLen]; omega)
    | (have q := wCellR_le hw 0; show (0 + (a.getD 0 default).rows.length) * 8 ≤ 140737488355328; omega)
    | (have q := wCellR_le hw 1; show (0 + (a.getD 1 default).rows.length) * 16 ≤ 140737488355328; omega)
    | rfl
    | skip
/-- impl.copyValue -/
theorem pstep45 (n : Nat) (hn : FOk Try.prog Td 80 (cpSOn 60 n)) : FOk Try.prog Td 45 (cpGOn T [.i .i64, .i .i64, .i .i64, .s, .l 60, .l 9, .l 114] (n + 1)) := by
  refine fok (env := envL [(80, (cpSOn 60 n)), (81, (cpGO T [.l 3, .l 142]))]) (N := 33) tabTd (envD_cons hn (envD_cons po81 envD_nil)) mixed Try.func45 rfl Try.call45 Try.ntmps45 ?_
  rintro args ⟨a, wa, hs, hw, rfl⟩ hwf
  clear hwf
  refine ⟨by simp, ?_⟩
  rw [Try.results45]
  repeat' first
    | (refine And.intro ?_ ?_)
    | (intro h; simp only [reduceCtorEq] at h; done)
    | (intro h; rw [h])
    | (intro h)
  all_goals first
    | (show lowEdges _ = true; kernel_rfl) | (show logOk _ _ = true; kernel_rfl) | exact True.intro | exact Or.inr rfl | exact Or.inl rfl
    | exact ⟨_, wCellR_le hw 4, rfl⟩
    | exact ⟨_, wCellR_le hw 5, rfl⟩
    | exact ⟨_, wCellR_le hw 6, rfl⟩
    | exact ⟨_, Nat.lt_of_lt_of_le (size_cell (by rw [wa.1]; decide)) (Nat.le_of_lt_succ hs), wCellR_le hw 4, rfl⟩
    | exact ⟨_, Nat.lt_of_lt_of_le (size_cell (by rw [wa.1]; decide)) (Nat.le_of_lt_succ hs), wCellR_le hw 5, rfl⟩
    | exact ⟨_, Nat.lt_of_lt_of_le (size_cell (by rw [wa.1]; decide)) (Nat.le_of_lt_succ hs), wCellR_le hw 6, rfl⟩
    | (have q := wCellR_le hw 4; show 0 + (a.getD 4 default).rows.length ≤ maxLen; simp only [maxLen]; omega)
    | (have q := wCellR_le hw 5; show 0 + (a.getD 5 default).rows.length ≤ maxLen; simp only [maxLen]; omega)
    | (have q := wCellR_le hw 6; show 0 + (a.getD 6 default).rows.length ≤ maxLen; simp only [maxLen]; omega)
    | (have q := wCellR_le hw 4; show (0 + (a.getD 4 default).rows.length) * 112 ≤ 140737488355328; omega)
    | (have q := wCellR_le hw 5; show (0 + (a.getD 5 default).rows.length) * 16 ≤ 140737488355328; omega)
    | (have q := wCellR_le hw 6; show (0 + (a.getD 6 default).rows.length) * 48 ≤ 140737488355328; omega)
    | skip
  have wR0 : WfD T (.l 114) (.l (a.getD 6 default).rows) := wa.rows (j := 6) rfl
  have lR0 : (a.getD 6 default).rows.length ≤ maxLen := wR0.len
  have hR0 := wCellR_le hw 6
  have zR0 : SizeOf.sizeOf (a.getD 6 default).rows < SizeOf.sizeOf a := size_cell (by rw [wa.1]; decide)
  refine awp_loop (Q := _) [1, 2, 3, 18, 19, 20] [1, 2, 3] (fun n s => ∃ i : Int, s = ([.ptr 1 1 0, .ptr 2 1 0, .ptr 3 1 0, .val false [.sl false 114 (a.getD 6 default).rows], .val false [.i .i64 (a.getD 6 default).rows.length], .val false [.i .i64 i]], [(1, (rowC [.i .i64, .i .i64, .i .i64, .s, .l 60, .l 9, .l 114] a).map fun c => .val false [c]), (1, [.val false [.i .i64 0], .val false [.i .i64 0], .val false [.i .i64 0], .val false [.s ByteArray.empty], .val false [.sl true 60 []], .val false [.sl true 9 []], .val false [.sl true 114 []]]), (1, [.val false [.i .i64 (a.getD 0 default).int], .val false [.i .i64 (a.getD 1 default).int], .val false [.i .i64 (a.getD 2 default).int], .val false [.s (a.getD 3 default).str], .val false [.sl true 60 (a.getD 4 default).rows], .val false [.sl true 9 (a.getD 5 default).rows], .val false [.sl true 114 ((a.getD 6 default).rows.take i.toNat)]])]) ∧ 0 ≤ i ∧ i ≤ (a.getD 6 default).rows.length ∧ n = (a.getD 6 default).rows.length - i.toNat) ?_ ?_
  · exact ⟨rfl, (a.getD 6 default).rows.length - 0, 0, rfl, by omega, by omega, rfl⟩
  rintro n0 s ⟨i, rfl, h1, h2, h3⟩
  repeat' first
    | (refine And.intro ?_ ?_)
    | (intro h; simp only [reduceCtorEq] at h; done)
    | (intro h; rw [h])
    | (intro h)
  all_goals first
    | (show lowEdges _ = true; kernel_rfl) | (show logOk _ _ = true; kernel_rfl) | exact True.intro | exact Or.inr rfl | exact Or.inl rfl
    | omega
    | exact of_decide_eq_true ‹_›
    | (have hi : i < ((a.getD 6 default).rows.length : Int) := of_decide_eq_true ‹decide (i < ((a.getD 6 default).rows.length : Int)) = true›
       have wr : WfRow T [.l 3, .l 142] ((a.getD 6 default).rows.getD i.toNat []) := wR0.row rfl (by omega)
       have hwr := wRow_le (a := (a.getD 6 default).rows) (k := i.toNat) (by omega)
       first
         | exact ⟨_, wr, by omega, rfl⟩
         | exact ⟨_, wr, Nat.lt_of_lt_of_le (Nat.lt_trans (size_row (by omega)) zR0) (Nat.le_of_lt_succ hs), by omega, rfl⟩
         | (rw [take_len h1 h2]; show i.toNat + 1 ≤ maxLen; simp only [maxLen]; omega)
         | (rw [take_len h1 h2]; show (i.toNat + 1) * 48 ≤ _; omega)
         | (refine ⟨(a.getD 6 default).rows.length - (i + 1).toNat, by omega, i + 1, ?_, by omega, by omega, rfl⟩
            exact snapT (fun r z => (([.ptr 1 1 0, .ptr 2 1 0, .ptr 3 1 0, .val false [.sl false 114 (a.getD 6 default).rows], .val false [.i .i64 (a.getD 6 default).rows.length], .val false [.i .i64 z]], [(1, (rowC [.i .i64, .i .i64, .i .i64, .s, .l 60, .l 9, .l 114] a).map fun c => .val false [c]), (1, [.val false [.i .i64 0], .val false [.i .i64 0], .val false [.i .i64 0], .val false [.s ByteArray.empty], .val false [.sl true 60 []], .val false [.sl true 9 []], .val false [.sl true 114 []]]), (1, [.val false [.i .i64 (a.getD 0 default).int], .val false [.i .i64 (a.getD 1 default).int], .val false [.i .i64 (a.getD 2 default).int], .val false [.s (a.getD 3 default).str], .val false [.sl true 60 (a.getD 4 default).rows], .val false [.sl true 9 (a.getD 5 default).rows], .val false [.sl true 114 r]])]) : Snap)) (take_app h1 hi (csD_rowC wr)) (wrap_next h1 hi lR0)))
    | exact rfl
    | skip
  have hT0 : (a.getD 6 default).rows.take i.toNat = (a.getD 6 default).rows := take_all h1 h2 ‹decide (i < ((a.getD 6 default).rows.length : Int)) = false›
  rw [hT0]
  rfl
/-- impl.copyValues -/
theorem pstep80 (n : Nat) (hn : FOk Try.prog Td 45 (cpGOn T [.i .i64, .i .i64, .i .i64, .s, .l 60, .l 9, .l 114] n)) : FOk Try.prog Td 80 (cpSOn 60 (n + 1)) := by
  refine fok (env := envL [(45, (cpGOn T [.i .i64, .i .i64, .i .i64, .s, .l 60, .l 9, .l 114] n))]) (N := 20) tabTd (envD_cons hn envD_nil) mixed Try.func80 rfl Try.call80 Try.ntmps80 ?_
  rintro args ⟨a, hs, hw, rfl⟩ hwf
  have wa : WfD T (.l 60) (.l a) := arg0O hwf (List.mem_singleton_self _)
  clear hwf
  have la : a.length ≤ maxLen := wa.len
  refine ⟨by simp, ?_⟩
  rw [Try.results80]
  repeat' first
    | (refine And.intro ?_ ?_)
    | (intro h; simp only [reduceCtorEq] at h; done)
    | (intro h; rw [h])
    | (intro h)
  all_goals first
    | (show lowEdges _ = true; kernel_rfl) | (show logOk _ _ = true; kernel_rfl) | exact True.intro | exact Or.inr rfl | exact Or.inl rfl
    | skip
  refine awp_loop (Q := _) [3, 7, 8, 9] [] (fun n s => ∃ i : Int, s = ([.val false [.sl true 60 (a.take i.toNat)], argS 60 a, .val false [.i .i64 a.length], .val false [.i .i64 i]], []) ∧ 0 ≤ i ∧ i ≤ a.length ∧ n = a.length - i.toNat) ?_ ?_
  · exact ⟨rfl, a.length - 0, 0, rfl, by omega, by omega, rfl⟩
  rintro n s ⟨i, rfl, h1, h2, h3⟩
  repeat' first
    | (refine And.intro ?_ ?_)
    | (intro h; simp only [reduceCtorEq] at h; done)
    | (intro h; rw [h])
    | (intro h)
  all_goals first
    | (show lowEdges _ = true; kernel_rfl) | (show logOk _ _ = true; kernel_rfl) | exact True.intro | exact Or.inr rfl | exact Or.inl rfl
    | omega
    | exact of_decide_eq_true ‹_›
    | exact resSl (take_all h1 h2 ‹_›)
    | (have hi : i < (a.length : Int) := of_decide_eq_true ‹decide (i < (a.length : Int)) = true›
       have wr : WfRow T [.i .i64, .i .i64, .i .i64, .s, .l 60, .l 9, .l 114] (a.getD i.toNat []) := wa.row rfl (by omega)
       have hwr := wRow_le (a := a) (k := i.toNat) (by omega)
       first
         | exact ⟨_, wr, by omega, rfl⟩
         | exact ⟨_, wr, Nat.lt_of_lt_of_le (size_row (by omega)) (Nat.le_of_lt_succ hs), by omega, rfl⟩

         | exact ⟨_, Nat.le_trans (wRows_cell (a.getD i.toNat []) 4) (by omega), rfl⟩
         | exact ⟨_, Nat.le_trans (wRows_cell (a.getD i.toNat []) 5) (by omega), rfl⟩
         | exact ⟨_, Nat.le_trans (wRows_cell (a.getD i.toNat []) 6) (by omega), rfl⟩
         | (rw [take_len h1 h2]; show i.toNat + 1 ≤ maxLen; simp only [maxLen]; omega)
         | (rw [take_len h1 h2]; show (i.toNat + 1) * 112 ≤ _; omega)
         | (refine ⟨a.length - (i + 1).toNat, by omega, i + 1, ?_, by omega, by omega, rfl⟩
            exact snapT (fun r z => (([.val false [.sl true 60 r], argS 60 a, .val false [.i .i64 a.length], .val false [.i .i64 z]], []) : Snap)) (take_app h1 hi (csD_rowC wr)) (wrap_next h1 hi la)))
    | exact rfl
theorem pzero45 : FOk Try.prog Td 45 (cpGOn T [.i .i64, .i .i64, .i .i64, .s, .l 60, .l 9, .l 114] 0) := by
  refine fok (env := envL []) (N := 33) tabTd envD_nil mixed Try.func45 rfl Try.call45 Try.ntmps45 ?_
  rintro args ⟨a, wa, hs, hw, rfl⟩ _
  exact absurd hs (Nat.not_lt_zero _)
theorem pzero80 : FOk Try.prog Td 80 (cpSOn 60 0) := by
  refine fok (env := envL []) (N := 20) tabTd envD_nil mixed Try.func80 rfl Try.call80 Try.ntmps80 ?_
  rintro args ⟨a, hs, hw, rfl⟩ _
  exact absurd hs (Nat.not_lt_zero _)
theorem pboth45 (n : Nat) : FOk Try.prog Td 45 (cpGOn T [.i .i64, .i .i64, .i .i64, .s, .l 60, .l 9, .l 114] n) ∧ FOk Try.prog Td 80 (cpSOn 60 n) := by
  induction n with
  | zero => exact ⟨pzero45, pzero80⟩
  | succ n ih => exact ⟨pstep45 n ih.2, pstep80 n ih.1⟩
theorem po45 : FOk Try.prog Td 45 (cpGO T [.i .i64, .i .i64, .i .i64, .s, .l 60, .l 9, .l 114]) := FOk.liftO (s := fun n => (cpGOn T [.i .i64, .i .i64, .i .i64, .s, .l 60, .l 9, .l 114] n)) (fun n => (pboth45 n).1) (fun args ⟨a, wa, hw, h⟩ => ⟨SizeOf.sizeOf a + 1, a, wa, Nat.lt_succ_self _, hw, h⟩) (fun n => rfl)
theorem po80 : FOk Try.prog Td 80 (cpSO 60) := FOk.liftO (s := fun n => (cpSOn 60 n)) (fun n => (pboth45 n).2) (fun args ⟨a, hw, h⟩ => ⟨SizeOf.sizeOf a + 1, a, Nat.lt_succ_self _, hw, h⟩) (fun n => rfl)
/-- impl.copyReads -/
theorem po24 : FOk Try.prog Td 24 (cpSO 64) := by
  refine fok (env := envL [(45, (cpGO T [.i .i64, .i .i64, .i .i64, .s, .l 60, .l 9, .l 114]))]) (N := 23) tabTd (envD_cons po45 envD_nil) mixed Try.func24 rfl Try.call24 Try.ntmps24 ?_
  rintro args ⟨a, hw, rfl⟩ hwf
  have wa : WfD T (.l 64) (.l a) := arg0O hwf (List.mem_singleton_self _)
  clear hwf
  have la : a.length ≤ maxLen := wa.len
  refine ⟨by simp, ?_⟩
  rw [Try.results24]
  repeat' first
    | (refine And.intro ?_ ?_)
    | (intro h; simp only [reduceCtorEq] at h; done)
    | (intro h; rw [h])
    | (intro h)
  all_goals first
    | (show lowEdges _ = true; kernel_rfl) | (show logOk _ _ = true; kernel_rfl) | exact True.intro | exact Or.inr rfl | exact Or.inl rfl
    | skip
  refine awp_loop (Q := _) [3, 7, 8, 9] [] (fun n s => ∃ i : Int, s = ([.val false [.sl true 64 (a.take i.toNat)], argS 64 a, .val false [.i .i64 a.length], .val false [.i .i64 i]], []) ∧ 0 ≤ i ∧ i ≤ a.length ∧ n = a.length - i.toNat) ?_ ?_
  · exact ⟨rfl, a.length - 0, 0, rfl, by omega, by omega, rfl⟩
  rintro n s ⟨i, rfl, h1, h2, h3⟩
  repeat' first
    | (refine And.intro ?_ ?_)
    | (intro h; simp only [reduceCtorEq] at h; done)
    | (intro h; rw [h])
    | (intro h)
  all_goals first
    | (show lowEdges _ = true; kernel_rfl) | (show logOk _ _ = true; kernel_rfl) | exact True.intro | exact Or.inr rfl | exact Or.inl rfl
    | omega
    | exact of_decide_eq_true ‹_›
    | exact resSl (take_all h1 h2 ‹_›)
    | (have hi : i < (a.length : Int) := of_decide_eq_true ‹decide (i < (a.length : Int)) = true›
       have wr : WfRow T [.i .i64, .i .i64, .i .i64, .s, .i .i64, .i .i64, .i .i64, .s, .l 60, .l 9, .l 114] (a.getD i.toNat []) := wa.row rfl (by omega)
       have hwr := wRow_le (a := a) (k := i.toNat) (by omega)
       first
         | exact ⟨_, wr, by omega, rfl⟩
         | exact ⟨_, wr, Nat.lt_of_lt_of_le (size_row (by omega)) (Nat.le_of_lt_succ hs), by omega, rfl⟩
         | exact ⟨_, wr.sub 4 7 (by decide), Nat.le_trans (wSub_le (by rw [wr.1]; decide)) (by omega), rfl⟩
         | exact ⟨_, Nat.le_trans (wRows_cell (a.getD i.toNat []) 8) (by omega), rfl⟩
         | exact ⟨_, Nat.le_trans (wRows_cell (a.getD i.toNat []) 9) (by omega), rfl⟩
         | exact ⟨_, Nat.le_trans (wRows_cell (a.getD i.toNat []) 10) (by omega), rfl⟩
         | (rw [take_len h1 h2]; show i.toNat + 1 ≤ maxLen; simp only [maxLen]; omega)
         | (rw [take_len h1 h2]; show (i.toNat + 1) * 152 ≤ _; omega)
         | (refine ⟨a.length - (i + 1).toNat, by omega, i + 1, ?_, by omega, by omega, rfl⟩
            exact snapT (fun r z => (([.val false [.sl true 64 r], argS 64 a, .val false [.i .i64 a.length], .val false [.i .i64 z]], []) : Snap)) (take_app h1 hi (csD_rowC wr)) (wrap_next h1 hi la)))
    | exact rfl
end Go.Proofs.Ytidjlboppokloaa.Ab

