/- Deep copies that own all that they lead to: descriptions. No program in sight. The program's deep copies, owned in depth: printed by a program of this claim. -/
import Derived.Test.YtaecbmjmcpdgdaaGreatCCc
import Derived.Test.YtaecbmjmcpdgdaaGreatCMt
namespace Go.Proofs.YtaecbmjmcpdgdaaGreat.Ab
open Go.RowKit
set_option linter.unusedVariables false
def cpGO (T : Tab) (cts : List CT) : FSpec where
  pre := (cpG T cts).pre
  res args := match args with
    | [.val _ cs] => .val true (rowO cts (csD cs))
    | _ => .none
def cpGOn (T : Tab) (cts : List CT) (n : Nat) : FSpec where
  pre := (cpGn T cts n).pre
  res := (cpGO T cts).res
def cpSO (e : TypeId) : FSpec where
  pre := (cpS e).pre
  res args := match args with
    | [.val _ [.sl _ _ a]] => .val false [.sl true e a]
    | _ => .none
def cpSOn (e : TypeId) (n : Nat) : FSpec where
  pre := (cpSn e n).pre
  res := (cpSO e).res
end Go.Proofs.YtaecbmjmcpdgdaaGreat.Ab
namespace Go.Proofs.YtaecbmjmcpdgdaaGreat.Ab
open Go.RowKit
set_option linter.unusedVariables false
set_option linter.unusedSimpArgs false
set_option maxRecDepth 100000
set_option maxHeartbeats 1000000
theorem po91 : FOk Tryz.prog Td 91 (cpGO T [.l 3, .l 133]) := by
  refine fok (env := envL []) (N := 12) tabTd envD_nil mixed Tryz.func91 rfl Tryz.call91 Tryz.ntmps91 ?_
  rintro args ⟨a, wa, hw, rfl⟩ hwf
  refine ⟨by simp, ?_⟩
  clear hwf
  rw [Tryz.results91]
  repeat' first
    | (refine And.intro ?_ ?_)
    | (intro h; simp only [reduceCtorEq] at h; done)
    | (intro h; rw [h])
    | (intro h)
  all_goals first
    | (show lowEdges _ = true; kernel_rfl) | (show logOk _ _ = true; kernel_rfl) | exact True.intro | exact Or.inr rfl | exact Or.inl rfl
    | exact ⟨_, wCellR_le hw 0, rfl⟩
    | exact ⟨_, wCellR_le hw 1, rfl⟩
    | (have q := wCellR_le hw 0; show 0 + (a.getD 0 default).rows.length ≤ maxLen; simp only [maxLen]; omega)
    | (have q := wCellR_le hw 1; show 0 + (a.getD 1 default).rows.length ≤ maxLen; simp only [maxLen]; omega)
    | (have q := wCellR_le hw 0; show (0 + (a.getD 0 default).rows.length) * 8 ≤ 140737488355328; omega)
    | (have q := wCellR_le hw 1; show (0 + (a.getD 1 default).rows.length) * 16 ≤ 140737488355328; omega)
    | rfl
    | skip
theorem pstep68 (n : Nat) (hn : FOk Tryz.prog Td 90 (cpSOn 92 n)) : FOk Tryz.prog Td 68 (cpGOn T [.i .i64, .i .i64, .i .i64, .s, .l 92, .l 9, .l 115] (n + 1)) := by
  refine fok (env := envL [(90, (cpSOn 92 n)), (91, (cpGO T [.l 3, .l 133]))]) (N := 33) tabTd (envD_cons hn (envD_cons po91 envD_nil)) mixed Tryz.func68 rfl Tryz.call68 Tryz.ntmps68 ?_
  rintro args ⟨a, wa, hs, hw, rfl⟩ hwf
  clear hwf
  refine ⟨by simp, ?_⟩
  rw [Tryz.results68]
  repeat' first
    | (refine And.intro ?_ ?_)
    | (intro h; simp only [reduceCtorEq] at h; done)
    | (intro h; rw [h])
    | (intro h)
  all_goals first
    | (show lowEdges _ = true; kernel_rfl) | (show logOk _ _ = true; kernel_rfl) | exact True.intro | exact Or.inr rfl | exact Or.inl rfl
    | exact ⟨_, wCellR_le hw 4, rfl⟩
    | exact ⟨_, wCellR_le hw 5, rfl⟩
    | exact ⟨_, wCellR_le hw 6, rfl⟩
    | exact ⟨_, Nat.lt_of_lt_of_le (size_cell (by rw [wa.1]; decide)) (Nat.le_of_lt_succ hs), wCellR_le hw 4, rfl⟩
    | exact ⟨_, Nat.lt_of_lt_of_le (size_cell (by rw [wa.1]; decide)) (Nat.le_of_lt_succ hs), wCellR_le hw 5, rfl⟩
    | exact ⟨_, Nat.lt_of_lt_of_le (size_cell (by rw [wa.1]; decide)) (Nat.le_of_lt_succ hs), wCellR_le hw 6, rfl⟩
    | (have q := wCellR_le hw 4; show 0 + (a.getD 4 default).rows.length ≤ maxLen; simp only [maxLen]; omega)
    | (have q := wCellR_le hw 5; show 0 + (a.getD 5 default).rows.length ≤ maxLen; simp only [maxLen]; omega)
    | (have q := wCellR_le hw 6; show 0 + (a.getD 6 default).rows.length ≤ maxLen; simp only [maxLen]; omega)
    | (have q := wCellR_le hw 4; show (0 + (a.getD 4 default).rows.length) * 112 ≤ 140737488355328; omega)
    | (have q := wCellR_le hw 5; show (0 + (a.getD 5 default).rows.length) * 16 ≤ 140737488355328; omega)
    | (have q := wCellR_le hw 6; show (0 + (a.getD 6 default).rows.length) * 48 ≤ 140737488355328; omega)
    | skip
  have wR0 : WfD T (.l 115) (.l (a.getD 6 default).rows) := wa.rows (j := 6) rfl
  have lR0 : (a.getD 6 default).rows.length ≤ maxLen := wR0.len
  have hR0 := wCellR_le hw 6
  have zR0 : SizeOf.sizeOf (a.getD 6 default).rows < SizeOf.sizeOf a := size_cell (by rw [wa.1]; decide)
  refine awp_loop (Q := _) [1, 2, 3, 18, 19, 20] [1, 2, 3] (fun n s => ∃ i : Int, s = ([.ptr 1 1 0, .ptr 2 1 0, .ptr 3 1 0, .val false [.sl false 115 (a.getD 6 default).rows], .val false [.i .i64 (a.getD 6 default).rows.length], .val false [.i .i64 i]], [(1, (rowC [.i .i64, .i .i64, .i .i64, .s, .l 92, .l 9, .l 115] a).map fun c => .val false [c]), (1, [.val false [.i .i64 0], .val false [.i .i64 0], .val false [.i .i64 0], .val false [.s ByteArray.empty], .val false [.sl true 92 []], .val false [.sl true 9 []], .val false [.sl true 115 []]]), (1, [.val false [.i .i64 (a.getD 0 default).int], .val false [.i .i64 (a.getD 1 default).int], .val false [.i .i64 (a.getD 2 default).int], .val false [.s (a.getD 3 default).str], .val false [.sl true 92 (a.getD 4 default).rows], .val false [.sl true 9 (a.getD 5 default).rows], .val false [.sl true 115 ((a.getD 6 default).rows.take i.toNat)]])]) ∧ 0 ≤ i ∧ i ≤ (a.getD 6 default).rows.length ∧ n = (a.getD 6 default).rows.length - i.toNat) ?_ ?_
  · exact ⟨rfl, (a.getD 6 default).rows.length - 0, 0, rfl, by omega, by omega, rfl⟩
  rintro n0 s ⟨i, rfl, h1, h2, h3⟩
  repeat' first
    | (refine And.intro ?_ ?_)
    | (intro h; simp only [reduceCtorEq] at h; done)
    | (intro h; rw [h])
    | (intro h)
  all_goals first
    | (show lowEdges _ = true; kernel_rfl) | (show logOk _ _ = true; kernel_rfl) | exact True.intro | exact Or.inr rfl | exact Or.inl rfl
    | omega
    | exact of_decide_eq_true ‹_›
    | (have hi : i < ((a.getD 6 default).rows.length : Int) := of_decide_eq_true ‹decide (i < ((a.getD 6 default).rows.length : Int)) = true›
       have wr : WfRow T [.l 3, .l 133] ((a.getD 6 default).rows.getD i.toNat []) := wR0.row rfl (by omega)
       have hwr := wRow_le (a := (a.getD 6 default).rows) (k := i.toNat) (by omega)
       first
         | exact ⟨_, wr, by omega, rfl⟩
         | exact ⟨_, wr, Nat.lt_of_lt_of_le (Nat.lt_trans (size_row (by omega)) zR0) (Nat.le_of_lt_succ hs), by omega, rfl⟩
         | (rw [take_len h1 h2]; show i.toNat + 1 ≤ maxLen; simp only [maxLen]; omega)
         | (rw [take_len h1 h2]; show (i.toNat + 1) * 48 ≤ _; omega)
         | (refine ⟨(a.getD 6 default).rows.length - (i + 1).toNat, by omega, i + 1, ?_, by omega, by omega, rfl⟩
            exact snapT (fun r z => (([.ptr 1 1 0, .ptr 2 1 0, .ptr 3 1 0, .val false [.sl false 115 (a.getD 6 default).rows], .val false [.i .i64 (a.getD 6 default).rows.length], .val false [.i .i64 z]], [(1, (rowC [.i .i64, .i .i64, .i .i64, .s, .l 92, .l 9, .l 115] a).map fun c => .val false [c]), (1, [.val false [.i .i64 0], .val false [.i .i64 0], .val false [.i .i64 0], .val false [.s ByteArray.empty], .val false [.sl true 92 []], .val false [.sl true 9 []], .val false [.sl true 115 []]]), (1, [.val false [.i .i64 (a.getD 0 default).int], .val false [.i .i64 (a.getD 1 default).int], .val false [.i .i64 (a.getD 2 default).int], .val false [.s (a.getD 3 default).str], .val false [.sl true 92 (a.getD 4 default).rows], .val false [.sl true 9 (a.getD 5 default).rows], .val false [.sl true 115 r]])]) : Snap)) (take_app h1 hi (csD_rowC wr)) (wrap_next h1 hi lR0)))
    | exact rfl
    | skip
  have hT0 : (a.getD 6 default).rows.take i.toNat = (a.getD 6 default).rows := take_all h1 h2 ‹decide (i < ((a.getD 6 default).rows.length : Int)) = false›
  rw [hT0]
  rfl
theorem pstep90 (n : Nat) (hn : FOk Tryz.prog Td 68 (cpGOn T [.i .i64, .i .i64, .i .i64, .s, .l 92, .l 9, .l 115] n)) : FOk Tryz.prog Td 90 (cpSOn 92 (n + 1)) := by
  refine fok (env := envL [(68, (cpGOn T [.i .i64, .i .i64, .i .i64, .s, .l 92, .l 9, .l 115] n))]) (N := 20) tabTd (envD_cons hn envD_nil) mixed Tryz.func90 rfl Tryz.call90 Tryz.ntmps90 ?_
  rintro args ⟨a, hs, hw, rfl⟩ hwf
  have wa : WfD T (.l 92) (.l a) := arg0O hwf (List.mem_singleton_self _)
  clear hwf
  have la : a.length ≤ maxLen := wa.len
  refine ⟨by simp, ?_⟩
  rw [Tryz.results90]
  repeat' first
    | (refine And.intro ?_ ?_)
    | (intro h; simp only [reduceCtorEq] at h; done)
    | (intro h; rw [h])
    | (intro h)
  all_goals first
    | (show lowEdges _ = true; kernel_rfl) | (show logOk _ _ = true; kernel_rfl) | exact True.intro | exact Or.inr rfl | exact Or.inl rfl
    | skip
  refine awp_loop (Q := _) [3, 7, 8, 9] [] (fun n s => ∃ i : Int, s = ([.val false [.sl true 92 (a.take i.toNat)], argS 92 a, .val false [.i .i64 a.length], .val false [.i .i64 i]], []) ∧ 0 ≤ i ∧ i ≤ a.length ∧ n = a.length - i.toNat) ?_ ?_
  · exact ⟨rfl, a.length - 0, 0, rfl, by omega, by omega, rfl⟩
  rintro n s ⟨i, rfl, h1, h2, h3⟩
  repeat' first
    | (refine And.intro ?_ ?_)
    | (intro h; simp only [reduceCtorEq] at h; done)
    | (intro h; rw [h])
    | (intro h)
  all_goals first
    | (show lowEdges _ = true; kernel_rfl) | (show logOk _ _ = true; kernel_rfl) | exact True.intro | exact Or.inr rfl | exact Or.inl rfl
    | omega
    | exact of_decide_eq_true ‹_›
    | exact resSl (take_all h1 h2 ‹_›)
    | (have hi : i < (a.length : Int) := of_decide_eq_true ‹decide (i < (a.length : Int)) = true›
       have wr : WfRow T [.i .i64, .i .i64, .i .i64, .s, .l 92, .l 9, .l 115] (a.getD i.toNat []) := wa.row rfl (by omega)
       have hwr := wRow_le (a := a) (k := i.toNat) (by omega)
       first
         | exact ⟨_, wr, by omega, rfl⟩
         | exact ⟨_, wr, Nat.lt_of_lt_of_le (size_row (by omega)) (Nat.le_of_lt_succ hs), by omega, rfl⟩

         | exact ⟨_, Nat.le_trans (wRows_cell (a.getD i.toNat []) 4) (by omega), rfl⟩
         | exact ⟨_, Nat.le_trans (wRows_cell (a.getD i.toNat []) 5) (by omega), rfl⟩
         | exact ⟨_, Nat.le_trans (wRows_cell (a.getD i.toNat []) 6) (by omega), rfl⟩
         | (rw [take_len h1 h2]; show i.toNat + 1 ≤ maxLen; simp only [maxLen]; omega)
         | (rw [take_len h1 h2]; show (i.toNat + 1) * 112 ≤ _; omega)
         | (refine ⟨a.length - (i + 1).toNat, by omega, i + 1, ?_, by omega, by omega, rfl⟩
            exact snapT (fun r z => (([.val false [.sl true 92 r], argS 92 a, .val false [.i .i64 a.length], .val false [.i .i64 z]], []) : Snap)) (take_app h1 hi (csD_rowC wr)) (wrap_next h1 hi la)))
    | exact rfl
theorem pzero68 : FOk Tryz.prog Td 68 (cpGOn T [.i .i64, .i .i64, .i .i64, .s, .l 92, .l 9, .l 115] 0) := by
  refine fok (env := envL []) (N := 33) tabTd envD_nil mixed Tryz.func68 rfl Tryz.call68 Tryz.ntmps68 ?_
  rintro args ⟨a, wa, hs, hw, rfl⟩ _
  exact absurd hs (Nat.not_lt_zero _)
theorem pzero90 : FOk Tryz.prog Td 90 (cpSOn 92 0) := by
  refine fok (env := envL []) (N := 20) tabTd envD_nil mixed Tryz.func90 rfl Tryz.call90 Tryz.ntmps90 ?_
  rintro args ⟨a, hs, hw, rfl⟩ _
  exact absurd hs (Nat.not_lt_zero _)
theorem pboth68 (n : Nat) : FOk Tryz.prog Td 68 (cpGOn T [.i .i64, .i .i64, .i .i64, .s, .l 92, .l 9, .l 115] n) ∧ FOk Tryz.prog Td 90 (cpSOn 92 n) := by
  induction n with
  | zero => exact ⟨pzero68, pzero90⟩
  | succ n ih => exact ⟨pstep68 n ih.2, pstep90 n ih.1⟩
theorem po68 : FOk Tryz.prog Td 68 (cpGO T [.i .i64, .i .i64, .i .i64, .s, .l 92, .l 9, .l 115]) := FOk.liftO (s := fun n => (cpGOn T [.i .i64, .i .i64, .i .i64, .s, .l 92, .l 9, .l 115] n)) (fun n => (pboth68 n).1) (fun args ⟨a, wa, hw, h⟩ => ⟨SizeOf.sizeOf a + 1, a, wa, Nat.lt_succ_self _, hw, h⟩) (fun n => rfl)
theorem po49 : FOk Tryz.prog Td 49 (cpSO 94) := by
  refine fok (env := envL [(68, (cpGO T [.i .i64, .i .i64, .i .i64, .s, .l 92, .l 9, .l 115]))]) (N := 23) tabTd (envD_cons po68 envD_nil) mixed Tryz.func49 rfl Tryz.call49 Tryz.ntmps49 ?_
  rintro args ⟨a, hw, rfl⟩ hwf
  have wa : WfD T (.l 94) (.l a) := arg0O hwf (List.mem_singleton_self _)
  clear hwf
  have la : a.length ≤ maxLen := wa.len
  refine ⟨by simp, ?_⟩
  rw [Tryz.results49]
  repeat' first
    | (refine And.intro ?_ ?_)
    | (intro h; simp only [reduceCtorEq] at h; done)
    | (intro h; rw [h])
    | (intro h)
  all_goals first
    | (show lowEdges _ = true; kernel_rfl) | (show logOk _ _ = true; kernel_rfl) | exact True.intro | exact Or.inr rfl | exact Or.inl rfl
    | skip
  refine awp_loop (Q := _) [3, 7, 8, 9] [] (fun n s => ∃ i : Int, s = ([.val false [.sl true 94 (a.take i.toNat)], argS 94 a, .val false [.i .i64 a.length], .val false [.i .i64 i]], []) ∧ 0 ≤ i ∧ i ≤ a.length ∧ n = a.length - i.toNat) ?_ ?_
  · exact ⟨rfl, a.length - 0, 0, rfl, by omega, by omega, rfl⟩
  rintro n s ⟨i, rfl, h1, h2, h3⟩
  repeat' first
    | (refine And.intro ?_ ?_)
    | (intro h; simp only [reduceCtorEq] at h; done)
    | (intro h; rw [h])
    | (intro h)
  all_goals first
    | (show lowEdges _ = true; kernel_rfl) | (show logOk _ _ = true; kernel_rfl) | exact True.intro | exact Or.inr rfl | exact Or.inl rfl
    | omega
    | exact of_decide_eq_true ‹_›
    | exact resSl (take_all h1 h2 ‹_›)
    | (have hi : i < (a.length : Int) := of_decide_eq_true ‹decide (i < (a.length : Int)) = true›
       have wr : WfRow T [.i .i64, .i .i64, .i .i64, .s, .i .i64, .i .i64, .i .i64, .s, .l 92, .l 9, .l 115] (a.getD i.toNat []) := wa.row rfl (by omega)
       have hwr := wRow_le (a := a) (k := i.toNat) (by omega)
       first
         | exact ⟨_, wr, by omega, rfl⟩
         | exact ⟨_, wr, Nat.lt_of_lt_of_le (size_row (by omega)) (Nat.le_of_lt_succ hs), by omega, rfl⟩
         | exact ⟨_, wr.sub 4 7 (by decide), Nat.le_trans (wSub_le (by rw [wr.1]; decide)) (by omega), rfl⟩
         | exact ⟨_, Nat.le_trans (wRows_cell (a.getD i.toNat []) 8) (by omega), rfl⟩
         | exact ⟨_, Nat.le_trans (wRows_cell (a.getD i.toNat []) 9) (by omega), rfl⟩
         | exact ⟨_, Nat.le_trans (wRows_cell (a.getD i.toNat []) 10) (by omega), rfl⟩
         | (rw [take_len h1 h2]; show i.toNat + 1 ≤ maxLen; simp only [maxLen]; omega)
         | (rw [take_len h1 h2]; show (i.toNat + 1) * 152 ≤ _; omega)
         | (refine ⟨a.length - (i + 1).toNat, by omega, i + 1, ?_, by omega, by omega, rfl⟩
            exact snapT (fun r z => (([.val false [.sl true 94 r], argS 94 a, .val false [.i .i64 a.length], .val false [.i .i64 z]], []) : Snap)) (take_app h1 hi (csD_rowC wr)) (wrap_next h1 hi la)))
    | exact rfl
theorem po34 : FOk Tryz.prog Td 34 (cpGO T [.i .i64, .i .i64, .i .i64, .l 3, .i .i64, .i .i64, .i .i64, .i .i64, .i .i64, .s, .s, .i .i64, .s, .s, .i .i64, .i .i64, .l 94]) := by
  refine fok (env := envL [(49, (cpSO 94))]) (N := 13) tabTd (envD_cons po49 envD_nil) mixed Tryz.func34 rfl Tryz.call34 Tryz.ntmps34 ?_
  rintro args ⟨a, wa, hw, rfl⟩ hwf
  refine ⟨by simp, ?_⟩
  clear hwf
  rw [Tryz.results34]
  repeat' first
    | (refine And.intro ?_ ?_)
    | (intro h; simp only [reduceCtorEq] at h; done)
    | (intro h; rw [h])
    | (intro h)
  all_goals first
    | (show lowEdges _ = true; kernel_rfl) | (show logOk _ _ = true; kernel_rfl) | exact True.intro | exact Or.inr rfl | exact Or.inl rfl
    | exact ⟨_, wa.sub 4 8 (by decide), wSubR_le 4 8 wa (by decide) hw, rfl⟩
    | exact ⟨_, wCellR_le hw 3, rfl⟩
    | exact ⟨_, wCellR_le hw 16, rfl⟩
    | (have q := wCellR_le hw 3; show 0 + (a.getD 3 default).rows.length ≤ maxLen; simp only [maxLen]; omega)
    | (have q := wCellR_le hw 16; show 0 + (a.getD 16 default).rows.length ≤ maxLen; simp only [maxLen]; omega)
    | (have q := wCellR_le hw 3; show (0 + (a.getD 3 default).rows.length) * 8 ≤ 140737488355328; omega)
    | (have q := wCellR_le hw 16; show (0 + (a.getD 16 default).rows.length) * 152 ≤ 140737488355328; omega)
    | rfl
    | skip
theorem po21 : FOk Tryz.prog Td 21 (cpSO 54) := by
  refine fok (env := envL [(34, (cpGO T [.i .i64, .i .i64, .i .i64, .l 3, .i .i64, .i .i64, .i .i64, .i .i64, .i .i64, .s, .s, .i .i64, .s, .s, .i .i64, .i .i64, .l 94]))]) (N := 20) tabTd (envD_cons po34 envD_nil) mixed Tryz.func21 rfl Tryz.call21 Tryz.ntmps21 ?_
  rintro args ⟨a, hw, rfl⟩ hwf
  have wa : WfD T (.l 54) (.l a) := arg0O hwf (List.mem_singleton_self _)
  clear hwf
  have la : a.length ≤ maxLen := wa.len
  refine ⟨by simp, ?_⟩
  rw [Tryz.results21]
  repeat' first
    | (refine And.intro ?_ ?_)
    | (intro h; simp only [reduceCtorEq] at h; done)
    | (intro h; rw [h])
    | (intro h)
  all_goals first
    | (show lowEdges _ = true; kernel_rfl) | (show logOk _ _ = true; kernel_rfl) | exact True.intro | exact Or.inr rfl | exact Or.inl rfl
    | skip
  refine awp_loop (Q := _) [3, 7, 8, 9] [] (fun n s => ∃ i : Int, s = ([.val false [.sl true 54 (a.take i.toNat)], argS 54 a, .val false [.i .i64 a.length], .val false [.i .i64 i]], []) ∧ 0 ≤ i ∧ i ≤ a.length ∧ n = a.length - i.toNat) ?_ ?_
  · exact ⟨rfl, a.length - 0, 0, rfl, by omega, by omega, rfl⟩
  rintro n s ⟨i, rfl, h1, h2, h3⟩
  repeat' first
    | (refine And.intro ?_ ?_)
    | (intro h; simp only [reduceCtorEq] at h; done)
    | (intro h; rw [h])
    | (intro h)
  all_goals first
    | (show lowEdges _ = true; kernel_rfl) | (show logOk _ _ = true; kernel_rfl) | exact True.intro | exact Or.inr rfl | exact Or.inl rfl
    | omega
    | exact of_decide_eq_true ‹_›
    | exact resSl (take_all h1 h2 ‹_›)
    | (have hi : i < (a.length : Int) := of_decide_eq_true ‹decide (i < (a.length : Int)) = true›
       have wr : WfRow T [.i .i64, .i .i64, .i .i64, .l 3, .i .i64, .i .i64, .i .i64, .i .i64, .i .i64, .s, .s, .i .i64, .s, .s, .i .i64, .i .i64, .l 94] (a.getD i.toNat []) := wa.row rfl (by omega)
       have hwr := wRow_le (a := a) (k := i.toNat) (by omega)
       first
         | exact ⟨_, wr, by omega, rfl⟩
         | exact ⟨_, wr, Nat.lt_of_lt_of_le (size_row (by omega)) (Nat.le_of_lt_succ hs), by omega, rfl⟩
         | exact ⟨_, wr.sub 4 8 (by decide), Nat.le_trans (wSub_le (by rw [wr.1]; decide)) (by omega), rfl⟩
         | exact ⟨_, Nat.le_trans (wRows_cell (a.getD i.toNat []) 3) (by omega), rfl⟩
         | exact ⟨_, Nat.le_trans (wRows_cell (a.getD i.toNat []) 16) (by omega), rfl⟩
         | (rw [take_len h1 h2]; show i.toNat + 1 ≤ maxLen; simp only [maxLen]; omega)
         | (rw [take_len h1 h2]; show (i.toNat + 1) * 200 ≤ _; omega)
         | (refine ⟨a.length - (i + 1).toNat, by omega, i + 1, ?_, by omega, by omega, rfl⟩
            exact snapT (fun r z => (([.val false [.sl true 54 r], argS 54 a, .val false [.i .i64 a.length], .val false [.i .i64 z]], []) : Snap)) (take_app h1 hi (csD_rowC wr)) (wrap_next h1 hi la)))
    | exact rfl
theorem po22 : FOk Tryz.prog Td 22 (cpGO T [.i .i64, .l 54]) := by
  refine fok (env := envL [(21, (cpSO 54))]) (N := 9) tabTd (envD_cons po21 envD_nil) mixed Tryz.func22 rfl Tryz.call22 Tryz.ntmps22 ?_
  rintro args ⟨a, wa, hw, rfl⟩ hwf
  refine ⟨by simp, ?_⟩
  clear hwf
  rw [Tryz.results22]
  repeat' first
    | (refine And.intro ?_ ?_)
    | (intro h; simp only [reduceCtorEq] at h; done)
    | (intro h; rw [h])
    | (intro h)
  all_goals first
    | (show lowEdges _ = true; kernel_rfl) | (show logOk _ _ = true; kernel_rfl) | exact True.intro | exact Or.inr rfl | exact Or.inl rfl
    | exact ⟨_, wCellR_le hw 1, rfl⟩
    | (have q := wCellR_le hw 1; show 0 + (a.getD 1 default).rows.length ≤ maxLen; simp only [maxLen]; omega)
    | (have q := wCellR_le hw 1; show (0 + (a.getD 1 default).rows.length) * 200 ≤ 140737488355328; omega)
    | rfl
    | skip
end Go.Proofs.YtaecbmjmcpdgdaaGreat.Ab
