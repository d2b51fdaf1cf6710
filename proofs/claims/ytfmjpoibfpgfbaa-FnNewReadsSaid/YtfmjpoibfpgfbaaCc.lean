/- Deep copies: printed by a program of this claim. -/
import Derived.Test.YtfmjpoibfpgfbaaCd
import Derived.Test.YtfmjpoibfpgfbaaDb
namespace Go.Proofs.Ytfmjpoibfpgfbaa.Ab
open Go.RowKit
set_option linter.unusedVariables false
set_option linter.unusedSimpArgs false
set_option maxRecDepth 100000
set_option maxHeartbeats 1000000
/-- impl.copyRow -/
theorem ok38 : FOk Try.prog T 38 (cpG T [.l 3, .l 87]) := by
  refine fok (env := envL []) (N := 12) tabT envL_nil mixed Try.func38 rfl Try.call38 Try.ntmps38 ?_
  rintro args ⟨a, wa, hw, rfl⟩ hwf
  refine ⟨by simp, ?_⟩
  clear hwf
  rw [Try.results38]
  repeat' first
    | (refine And.intro ?_ ?_)
    | (intro h; simp only [reduceCtorEq] at h; done)
    | (intro h; rw [h])
    | (intro h)
  all_goals first
    | (show lowEdges _ = true; kernel_rfl) | (show logOk _ _ = true; kernel_rfl) | exact True.intro | exact Or.inr rfl | exact Or.inl rfl
    | exact ⟨_, wCellR_le hw 0, rfl⟩
    | exact ⟨_, wCellR_le hw 1, rfl⟩
    | (have q := wCellR_le hw 0; show 0 + (a.getD 0 default).rows.length ≤ maxLen; simp only [maxLen]; omega)
    | (have q := wCellR_le hw 1; show 0 + (a.getD 1 default).rows.length ≤ maxLen; simp only [maxLen]; omega)
    | (have q := wCellR_le hw 0; show (0 + (a.getD 0 default).rows.length) * 8 ≤ 140737488355328; omega)
    | (have q := wCellR_le hw 1; show (0 + (a.getD 1 default).rows.length) * 16 ≤ 140737488355328; omega)
    | rfl
    | skip
/-- spec.l3Row -/
theorem ok40 : FOk Try.prog T 40 (cpG T [.l 3, .l 87]) := by
  refine fok (env := envL []) (N := 12) tabT envL_nil mixed Try.func40 rfl Try.call40 Try.ntmps40 ?_
  rintro args ⟨a, wa, hw, rfl⟩ hwf
  refine ⟨by simp, ?_⟩
  clear hwf
  rw [Try.results40]
  repeat' first
    | (refine And.intro ?_ ?_)
    | (intro h; simp only [reduceCtorEq] at h; done)
    | (intro h; rw [h])
    | (intro h)
  all_goals first
    | (show lowEdges _ = true; kernel_rfl) | (show logOk _ _ = true; kernel_rfl) | exact True.intro | exact Or.inr rfl | exact Or.inl rfl
    | exact ⟨_, wCellR_le hw 0, rfl⟩
    | exact ⟨_, wCellR_le hw 1, rfl⟩
    | (have q := wCellR_le hw 0; show 0 + (a.getD 0 default).rows.length ≤ maxLen; simp only [maxLen]; omega)
    | (have q := wCellR_le hw 1; show 0 + (a.getD 1 default).rows.length ≤ maxLen; simp only [maxLen]; omega)
    | (have q := wCellR_le hw 0; show (0 + (a.getD 0 default).rows.length) * 8 ≤ 140737488355328; omega)
    | (have q := wCellR_le hw 1; show (0 + (a.getD 1 default).rows.length) * 16 ≤ 140737488355328; omega)
    | rfl
    | skip
/-- impl.copyValue -/
theorem step27 (n : Nat) (hn : FOk Try.prog T 37 (cpSn 40 n)) : FOk Try.prog T 27 (cpGn T [.i .i64, .i .i64, .i .i64, .s, .l 40, .l 9, .l 74] (n + 1)) := by
  refine fok (env := envL [(37, (cpSn 40 n)), (38, (cpG T [.l 3, .l 87]))]) (N := 33) tabT (envL_cons hn (envL_cons ok38 envL_nil)) mixed Try.func27 rfl Try.call27 Try.ntmps27 ?_
  rintro args ⟨a, wa, hs, hw, rfl⟩ hwf
  clear hwf
  refine ⟨by simp, ?_⟩
  rw [Try.results27]
  repeat' first
    | (refine And.intro ?_ ?_)
    | (intro h; simp only [reduceCtorEq] at h; done)
    | (intro h; rw [h])
    | (intro h)
  all_goals first
    | (show lowEdges _ = true; kernel_rfl) | (show logOk _ _ = true; kernel_rfl) | exact True.intro | exact Or.inr rfl | exact Or.inl rfl
    | exact ⟨_, wCellR_le hw 4, rfl⟩
    | exact ⟨_, wCellR_le hw 5, rfl⟩
    | exact ⟨_, wCellR_le hw 6, rfl⟩
    | exact ⟨_, Nat.lt_of_lt_of_le (size_cell (by rw [wa.1]; decide)) (Nat.le_of_lt_succ hs), wCellR_le hw 4, rfl⟩
    | exact ⟨_, Nat.lt_of_lt_of_le (size_cell (by rw [wa.1]; decide)) (Nat.le_of_lt_succ hs), wCellR_le hw 5, rfl⟩
    | exact ⟨_, Nat.lt_of_lt_of_le (size_cell (by rw [wa.1]; decide)) (Nat.le_of_lt_succ hs), wCellR_le hw 6, rfl⟩
    | (have q := wCellR_le hw 4; show 0 + (a.getD 4 default).rows.length ≤ maxLen; simp only [maxLen]; omega)
    | (have q := wCellR_le hw 5; show 0 + (a.getD 5 default).rows.length ≤ maxLen; simp only [maxLen]; omega)
    | (have q := wCellR_le hw 6; show 0 + (a.getD 6 default).rows.length ≤ maxLen; simp only [maxLen]; omega)
    | (have q := wCellR_le hw 4; show (0 + (a.getD 4 default).rows.length) * 112 ≤ 140737488355328; omega)
    | (have q := wCellR_le hw 5; show (0 + (a.getD 5 default).rows.length) * 16 ≤ 140737488355328; omega)
    | (have q := wCellR_le hw 6; show (0 + (a.getD 6 default).rows.length) * 48 ≤ 140737488355328; omega)
    | skip
  have wR0 : WfD T (.l 74) (.l (a.getD 6 default).rows) := wa.rows (j := 6) rfl
  have lR0 : (a.getD 6 default).rows.length ≤ maxLen := wR0.len
  have hR0 := wCellR_le hw 6
  have zR0 : SizeOf.sizeOf (a.getD 6 default).rows < SizeOf.sizeOf a := size_cell (by rw [wa.1]; decide)
  refine awp_loop (Q := _) [1, 2, 3, 18, 19, 20] [1, 2, 3] (fun n s => ∃ i : Int, s = ([.ptr 1 1 0, .ptr 2 1 0, .ptr 3 1 0, .val false [.sl false 74 (a.getD 6 default).rows], .val false [.i .i64 (a.getD 6 default).rows.length], .val false [.i .i64 i]], [(1, (rowC [.i .i64, .i .i64, .i .i64, .s, .l 40, .l 9, .l 74] a).map fun c => .val false [c]), (1, [.val false [.i .i64 0], .val false [.i .i64 0], .val false [.i .i64 0], .val false [.s ByteArray.empty], .val false [.sl true 40 []], .val false [.sl true 9 []], .val false [.sl true 74 []]]), (1, [.val false [.i .i64 (a.getD 0 default).int], .val false [.i .i64 (a.getD 1 default).int], .val false [.i .i64 (a.getD 2 default).int], .val false [.s (a.getD 3 default).str], .val false [.sl true 40 (a.getD 4 default).rows], .val false [.sl true 9 (a.getD 5 default).rows], .val false [.sl true 74 ((a.getD 6 default).rows.take i.toNat)]])]) ∧ 0 ≤ i ∧ i ≤ (a.getD 6 default).rows.length ∧ n = (a.getD 6 default).rows.length - i.toNat) ?_ ?_
  · exact ⟨rfl, (a.getD 6 default).rows.length - 0, 0, rfl, by omega, by omega, rfl⟩
  rintro n0 s ⟨i, rfl, h1, h2, h3⟩
  repeat' first
    | (refine And.intro ?_ ?_)
    | (intro h; simp only [reduceCtorEq] at h; done)
    | (intro h; rw [h])
    | (intro h)
  all_goals first
    | (show lowEdges _ = true; kernel_rfl) | (show logOk _ _ = true; kernel_rfl) | exact True.intro | exact Or.inr rfl | exact Or.inl rfl
    | omega
    | exact of_decide_eq_true ‹_›
    | (have hi : i < ((a.getD 6 default).rows.length : Int) := of_decide_eq_true ‹decide (i < ((a.getD 6 default).rows.length : Int)) = true›
       have wr : WfRow T [.l 3, .l 87] ((a.getD 6 default).rows.getD i.toNat []) := wR0.row rfl (by omega)
       have hwr := wRow_le (a := (a.getD 6 default).rows) (k := i.toNat) (by omega)
       first
         | exact ⟨_, wr, by omega, rfl⟩
         | exact ⟨_, wr, Nat.lt_of_lt_of_le (Nat.lt_trans (size_row (by omega)) zR0) (Nat.le_of_lt_succ hs), by omega, rfl⟩
         | (rw [take_len h1 h2]; show i.toNat + 1 ≤ maxLen; simp only [maxLen]; omega)
         | (rw [take_len h1 h2]; show (i.toNat + 1) * 48 ≤ _; omega)
         | (refine ⟨(a.getD 6 default).rows.length - (i + 1).toNat, by omega, i + 1, ?_, by omega, by omega, rfl⟩
            exact snapT (fun r z => (([.ptr 1 1 0, .ptr 2 1 0, .ptr 3 1 0, .val false [.sl false 74 (a.getD 6 default).rows], .val false [.i .i64 (a.getD 6 default).rows.length], .val false [.i .i64 z]], [(1, (rowC [.i .i64, .i .i64, .i .i64, .s, .l 40, .l 9, .l 74] a).map fun c => .val false [c]), (1, [.val false [.i .i64 0], .val false [.i .i64 0], .val false [.i .i64 0], .val false [.s ByteArray.empty], .val false [.sl true 40 []], .val false [.sl true 9 []], .val false [.sl true 74 []]]), (1, [.val false [.i .i64 (a.getD 0 default).int], .val false [.i .i64 (a.getD 1 default).int], .val false [.i .i64 (a.getD 2 default).int], .val false [.s (a.getD 3 default).str], .val false [.sl true 40 (a.getD 4 default).rows], .val false [.sl true 9 (a.getD 5 default).rows], .val false [.sl true 74 r]])]) : Snap)) (take_app h1 hi (csD_rowC wr)) (wrap_next h1 hi lR0)))
    | exact rfl
    | skip
  have hT0 : (a.getD 6 default).rows.take i.toNat = (a.getD 6 default).rows := take_all h1 h2 ‹decide (i < ((a.getD 6 default).rows.length : Int)) = false›
  rw [hT0]
  rfl
/-- impl.copyValues -/
theorem step37 (n : Nat) (hn : FOk Try.prog T 27 (cpGn T [.i .i64, .i .i64, .i .i64, .s, .l 40, .l 9, .l 74] n)) : FOk Try.prog T 37 (cpSn 40 (n + 1)) := by
  refine fok (env := envL [(27, (cpGn T [.i .i64, .i .i64, .i .i64, .s, .l 40, .l 9, .l 74] n))]) (N := 20) tabT (envL_cons hn envL_nil) mixed Try.func37 rfl Try.call37 Try.ntmps37 ?_
  rintro args ⟨a, hs, hw, rfl⟩ hwf
  have wa : WfD T (.l 40) (.l a) := arg0 hwf (List.mem_singleton_self _)
  clear hwf
  have la : a.length ≤ maxLen := wa.len
  refine ⟨by simp, ?_⟩
  rw [Try.results37]
  repeat' first
    | (refine And.intro ?_ ?_)
    | (intro h; simp only [reduceCtorEq] at h; done)
    | (intro h; rw [h])
    | (intro h)
  all_goals first
    | (show lowEdges _ = true; kernel_rfl) | (show logOk _ _ = true; kernel_rfl) | exact True.intro | exact Or.inr rfl | exact Or.inl rfl
    | skip
  refine awp_loop (Q := _) [3, 7, 8, 9] [] (fun n s => ∃ i : Int, s = ([.val false [.sl true 40 (a.take i.toNat)], argS 40 a, .val false [.i .i64 a.length], .val false [.i .i64 i]], []) ∧ 0 ≤ i ∧ i ≤ a.length ∧ n = a.length - i.toNat) ?_ ?_
  · exact ⟨rfl, a.length - 0, 0, rfl, by omega, by omega, rfl⟩
  rintro n s ⟨i, rfl, h1, h2, h3⟩
  repeat' first
    | (refine And.intro ?_ ?_)
    | (intro h; simp only [reduceCtorEq] at h; done)
    | (intro h; rw [h])
    | (intro h)
  all_goals first
    | (show lowEdges _ = true; kernel_rfl) | (show logOk _ _ = true; kernel_rfl) | exact True.intro | exact Or.inr rfl | exact Or.inl rfl
    | omega
    | exact of_decide_eq_true ‹_›
    | exact resSl (take_all h1 h2 ‹_›)
    | (have hi : i < (a.length : Int) := of_decide_eq_true ‹decide (i < (a.length : Int)) = true›
       have wr : WfRow T [.i .i64, .i .i64, .i .i64, .s, .l 40, .l 9, .l 74] (a.getD i.toNat []) := wa.row rfl (by omega)
       have hwr := wRow_le (a := a) (k := i.toNat) (by omega)
       first
         | exact ⟨_, wr, by omega, rfl⟩
         | exact ⟨_, wr, Nat.lt_of_lt_of_le (size_row (by omega)) (Nat.le_of_lt_succ hs), by omega, rfl⟩

         | exact ⟨_, Nat.le_trans (wRows_cell (a.getD i.toNat []) 4) (by omega), rfl⟩
         | exact ⟨_, Nat.le_trans (wRows_cell (a.getD i.toNat []) 5) (by omega), rfl⟩
         | exact ⟨_, Nat.le_trans (wRows_cell (a.getD i.toNat []) 6) (by omega), rfl⟩
         | (rw [take_len h1 h2]; show i.toNat + 1 ≤ maxLen; simp only [maxLen]; omega)
         | (rw [take_len h1 h2]; show (i.toNat + 1) * 112 ≤ _; omega)
         | (refine ⟨a.length - (i + 1).toNat, by omega, i + 1, ?_, by omega, by omega, rfl⟩
            exact snapT (fun r z => (([.val false [.sl true 40 r], argS 40 a, .val false [.i .i64 a.length], .val false [.i .i64 z]], []) : Snap)) (take_app h1 hi (csD_rowC wr)) (wrap_next h1 hi la)))
    | exact rfl
theorem zero27 : FOk Try.prog T 27 (cpGn T [.i .i64, .i .i64, .i .i64, .s, .l 40, .l 9, .l 74] 0) := by
  refine fok (env := envL []) (N := 33) tabT envL_nil mixed Try.func27 rfl Try.call27 Try.ntmps27 ?_
  rintro args ⟨a, wa, hs, hw, rfl⟩ _
  exact absurd hs (Nat.not_lt_zero _)
theorem zero37 : FOk Try.prog T 37 (cpSn 40 0) := by
  refine fok (env := envL []) (N := 20) tabT envL_nil mixed Try.func37 rfl Try.call37 Try.ntmps37 ?_
  rintro args ⟨a, hs, hw, rfl⟩ _
  exact absurd hs (Nat.not_lt_zero _)
theorem both27 (n : Nat) : FOk Try.prog T 27 (cpGn T [.i .i64, .i .i64, .i .i64, .s, .l 40, .l 9, .l 74] n) ∧ FOk Try.prog T 37 (cpSn 40 n) := by
  induction n with
  | zero => exact ⟨zero27, zero37⟩
  | succ n ih => exact ⟨step27 n ih.2, step37 n ih.1⟩
theorem ok27 : FOk Try.prog T 27 (cpG T [.i .i64, .i .i64, .i .i64, .s, .l 40, .l 9, .l 74]) := FOk.lift (s := fun n => (cpGn T [.i .i64, .i .i64, .i .i64, .s, .l 40, .l 9, .l 74] n)) (fun n => (both27 n).1) (fun args ⟨a, wa, hw, h⟩ => ⟨SizeOf.sizeOf a + 1, a, wa, Nat.lt_succ_self _, hw, h⟩) (fun n => rfl)
theorem ok37 : FOk Try.prog T 37 (cpS 40) := FOk.lift (s := fun n => (cpSn 40 n)) (fun n => (both27 n).2) (fun args ⟨a, hw, h⟩ => ⟨SizeOf.sizeOf a + 1, a, Nat.lt_succ_self _, hw, h⟩) (fun n => rfl)
/-- spec.l3Copy -/
theorem step33 (n : Nat) (hn : FOk Try.prog T 33 (cpGn T [.i .i64, .i .i64, .i .i64, .s, .l 40, .l 9, .l 74] n)) : FOk Try.prog T 33 (cpGn T [.i .i64, .i .i64, .i .i64, .s, .l 40, .l 9, .l 74] (n + 1)) := by
  refine fok (env := envL [(33, (cpGn T [.i .i64, .i .i64, .i .i64, .s, .l 40, .l 9, .l 74] n)), (40, (cpG T [.l 3, .l 87]))]) (N := 56) tabT (envL_cons hn (envL_cons ok40 envL_nil)) mixed Try.func33 rfl Try.call33 Try.ntmps33 ?_
  rintro args ⟨a, wa, hs, hw, rfl⟩ hwf
  clear hwf
  refine ⟨by simp, ?_⟩
  rw [Try.results33]
  repeat' first
    | (refine And.intro ?_ ?_)
    | (intro h; simp only [reduceCtorEq] at h; done)
    | (intro h; rw [h])
    | (intro h)
  all_goals first
    | (show lowEdges _ = true; kernel_rfl) | (show logOk _ _ = true; kernel_rfl) | exact True.intro | exact Or.inr rfl | exact Or.inl rfl
    | exact ⟨_, wCellR_le hw 4, rfl⟩
    | exact ⟨_, wCellR_le hw 5, rfl⟩
    | exact ⟨_, wCellR_le hw 6, rfl⟩
    | exact ⟨_, Nat.lt_of_lt_of_le (size_cell (by rw [wa.1]; decide)) (Nat.le_of_lt_succ hs), wCellR_le hw 4, rfl⟩
    | exact ⟨_, Nat.lt_of_lt_of_le (size_cell (by rw [wa.1]; decide)) (Nat.le_of_lt_succ hs), wCellR_le hw 5, rfl⟩
    | exact ⟨_, Nat.lt_of_lt_of_le (size_cell (by rw [wa.1]; decide)) (Nat.le_of_lt_succ hs), wCellR_le hw 6, rfl⟩
    | (have q := wCellR_le hw 4; show 0 + (a.getD 4 default).rows.length ≤ maxLen; simp only [maxLen]; omega)
    | (have q := wCellR_le hw 5; show 0 + (a.getD 5 default).rows.length ≤ maxLen; simp only [maxLen]; omega)
    | (have q := wCellR_le hw 6; show 0 + (a.getD 6 default).rows.length ≤ maxLen; simp only [maxLen]; omega)
    | (have q := wCellR_le hw 4; show (0 + (a.getD 4 default).rows.length) * 112 ≤ 140737488355328; omega)
    | (have q := wCellR_le hw 5; show (0 + (a.getD 5 default).rows.length) * 16 ≤ 140737488355328; omega)
    | (have q := wCellR_le hw 6; show (0 + (a.getD 6 default).rows.length) * 48 ≤ 140737488355328; omega)
    | skip
  have wR0 : WfD T (.l 40) (.l (a.getD 4 default).rows) := wa.rows (j := 4) rfl
  have lR0 : (a.getD 4 default).rows.length ≤ maxLen := wR0.len
  have hR0 := wCellR_le hw 4
  have zR0 : SizeOf.sizeOf (a.getD 4 default).rows < SizeOf.sizeOf a := size_cell (by rw [wa.1]; decide)
  refine awp_loop (Q := _) [1, 2, 3, 4] [1, 2, 3] (fun n s => ∃ i : Int, s = ([.ptr 1 1 0, .ptr 2 1 0, .ptr 3 1 0, .val false [.i .i64 i]], [(1, (rowC [.i .i64, .i .i64, .i .i64, .s, .l 40, .l 9, .l 74] a).map fun c => .val false [c]), (1, [.val false [.i .i64 0], .val false [.i .i64 0], .val false [.i .i64 0], .val false [.s ByteArray.empty], .val false [.sl true 40 []], .val false [.sl true 9 []], .val false [.sl true 74 []]]), (1, [.val false [.i .i64 (a.getD 0 default).int], .val false [.i .i64 (a.getD 1 default).int], .val false [.i .i64 (a.getD 2 default).int], .val false [.s (a.getD 3 default).str], .val false [.sl true 40 ((a.getD 4 default).rows.take i.toNat)], .val false [.sl true 9 (a.getD 5 default).rows], .val false [.sl true 74 []]])]) ∧ 0 ≤ i ∧ i ≤ (a.getD 4 default).rows.length ∧ n = (a.getD 4 default).rows.length - i.toNat) ?_ ?_
  · exact ⟨rfl, (a.getD 4 default).rows.length - 0, 0, rfl, by omega, by omega, rfl⟩
  rintro n0 s ⟨i, rfl, h1, h2, h3⟩
  repeat' first
    | (refine And.intro ?_ ?_)
    | (intro h; simp only [reduceCtorEq] at h; done)
    | (intro h; rw [h])
    | (intro h)
  all_goals first
    | (show lowEdges _ = true; kernel_rfl) | (show logOk _ _ = true; kernel_rfl) | exact True.intro | exact Or.inr rfl | exact Or.inl rfl
    | omega
    | exact of_decide_eq_true ‹_›
    | (have hi : i < ((a.getD 4 default).rows.length : Int) := of_decide_eq_true ‹decide (i < ((a.getD 4 default).rows.length : Int)) = true›
       have wr : WfRow T [.i .i64, .i .i64, .i .i64, .s, .l 40, .l 9, .l 74] ((a.getD 4 default).rows.getD i.toNat []) := wR0.row rfl (by omega)
       have hwr := wRow_le (a := (a.getD 4 default).rows) (k := i.toNat) (by omega)
       first
         | exact ⟨_, wr, by omega, rfl⟩
         | exact ⟨_, wr, Nat.lt_of_lt_of_le (Nat.lt_trans (size_row (by omega)) zR0) (Nat.le_of_lt_succ hs), by omega, rfl⟩
         | (rw [take_len h1 h2]; show i.toNat + 1 ≤ maxLen; simp only [maxLen]; omega)
         | (rw [take_len h1 h2]; show (i.toNat + 1) * 112 ≤ _; omega)
         | (refine ⟨(a.getD 4 default).rows.length - (i + 1).toNat, by omega, i + 1, ?_, by omega, by omega, rfl⟩
            exact snapT (fun r z => (([.ptr 1 1 0, .ptr 2 1 0, .ptr 3 1 0, .val false [.i .i64 z]], [(1, (rowC [.i .i64, .i .i64, .i .i64, .s, .l 40, .l 9, .l 74] a).map fun c => .val false [c]), (1, [.val false [.i .i64 0], .val false [.i .i64 0], .val false [.i .i64 0], .val false [.s ByteArray.empty], .val false [.sl true 40 []], .val false [.sl true 9 []], .val false [.sl true 74 []]]), (1, [.val false [.i .i64 (a.getD 0 default).int], .val false [.i .i64 (a.getD 1 default).int], .val false [.i .i64 (a.getD 2 default).int], .val false [.s (a.getD 3 default).str], .val false [.sl true 40 r], .val false [.sl true 9 (a.getD 5 default).rows], .val false [.sl true 74 []]])]) : Snap)) (take_app h1 hi (csD_rowC wr)) (wrap_next h1 hi lR0)))
    | exact rfl
    | skip
  have hT0 : (a.getD 4 default).rows.take i.toNat = (a.getD 4 default).rows := take_all h1 h2 ‹decide (i < ((a.getD 4 default).rows.length : Int)) = false›
  rw [hT0]
  clear h1 h2 h3 hT0
  have wR1 : WfD T (.l 74) (.l (a.getD 6 default).rows) := wa.rows (j := 6) rfl
  have lR1 : (a.getD 6 default).rows.length ≤ maxLen := wR1.len
  have hR1 := wCellR_le hw 6
  have zR1 : SizeOf.sizeOf (a.getD 6 default).rows < SizeOf.sizeOf a := size_cell (by rw [wa.1]; decide)
  refine awp_loop (Q := _) [1, 2, 3, 5] [1, 2, 3] (fun n s => ∃ i : Int, s = ([.ptr 1 1 0, .ptr 2 1 0, .ptr 3 1 0, .val false [.i .i64 i]], [(1, (rowC [.i .i64, .i .i64, .i .i64, .s, .l 40, .l 9, .l 74] a).map fun c => .val false [c]), (1, [.val false [.i .i64 0], .val false [.i .i64 0], .val false [.i .i64 0], .val false [.s ByteArray.empty], .val false [.sl true 40 []], .val false [.sl true 9 []], .val false [.sl true 74 []]]), (1, [.val false [.i .i64 (a.getD 0 default).int], .val false [.i .i64 (a.getD 1 default).int], .val false [.i .i64 (a.getD 2 default).int], .val false [.s (a.getD 3 default).str], .val false [.sl true 40 (a.getD 4 default).rows], .val false [.sl true 9 (a.getD 5 default).rows], .val false [.sl true 74 ((a.getD 6 default).rows.take i.toNat)]])]) ∧ 0 ≤ i ∧ i ≤ (a.getD 6 default).rows.length ∧ n = (a.getD 6 default).rows.length - i.toNat) ?_ ?_
  · exact ⟨rfl, (a.getD 6 default).rows.length - 0, 0, rfl, by omega, by omega, rfl⟩
  rintro n1 s ⟨i, rfl, h1, h2, h3⟩
  repeat' first
    | (refine And.intro ?_ ?_)
    | (intro h; simp only [reduceCtorEq] at h; done)
    | (intro h; rw [h])
    | (intro h)
  all_goals first
    | (show lowEdges _ = true; kernel_rfl) | (show logOk _ _ = true; kernel_rfl) | exact True.intro | exact Or.inr rfl | exact Or.inl rfl
    | omega
    | exact of_decide_eq_true ‹_›
    | (have hi : i < ((a.getD 6 default).rows.length : Int) := of_decide_eq_true ‹decide (i < ((a.getD 6 default).rows.length : Int)) = true›
       have wr : WfRow T [.l 3, .l 87] ((a.getD 6 default).rows.getD i.toNat []) := wR1.row rfl (by omega)
       have hwr := wRow_le (a := (a.getD 6 default).rows) (k := i.toNat) (by omega)
       first
         | exact ⟨_, wr, by omega, rfl⟩
         | exact ⟨_, wr, Nat.lt_of_lt_of_le (Nat.lt_trans (size_row (by omega)) zR1) (Nat.le_of_lt_succ hs), by omega, rfl⟩
         | (rw [take_len h1 h2]; show i.toNat + 1 ≤ maxLen; simp only [maxLen]; omega)
         | (rw [take_len h1 h2]; show (i.toNat + 1) * 48 ≤ _; omega)
         | (refine ⟨(a.getD 6 default).rows.length - (i + 1).toNat, by omega, i + 1, ?_, by omega, by omega, rfl⟩
            exact snapT (fun r z => (([.ptr 1 1 0, .ptr 2 1 0, .ptr 3 1 0, .val false [.i .i64 z]], [(1, (rowC [.i .i64, .i .i64, .i .i64, .s, .l 40, .l 9, .l 74] a).map fun c => .val false [c]), (1, [.val false [.i .i64 0], .val false [.i .i64 0], .val false [.i .i64 0], .val false [.s ByteArray.empty], .val false [.sl true 40 []], .val false [.sl true 9 []], .val false [.sl true 74 []]]), (1, [.val false [.i .i64 (a.getD 0 default).int], .val false [.i .i64 (a.getD 1 default).int], .val false [.i .i64 (a.getD 2 default).int], .val false [.s (a.getD 3 default).str], .val false [.sl true 40 (a.getD 4 default).rows], .val false [.sl true 9 (a.getD 5 default).rows], .val false [.sl true 74 r]])]) : Snap)) (take_app h1 hi (csD_rowC wr)) (wrap_next h1 hi lR1)))
    | exact rfl
    | skip
  have hT1 : (a.getD 6 default).rows.take i.toNat = (a.getD 6 default).rows := take_all h1 h2 ‹decide (i < ((a.getD 6 default).rows.length : Int)) = false›
  rw [hT1]
  rfl
theorem zero33 : FOk Try.prog T 33 (cpGn T [.i .i64, .i .i64, .i .i64, .s, .l 40, .l 9, .l 74] 0) := by
  refine fok (env := envL []) (N := 56) tabT envL_nil mixed Try.func33 rfl Try.call33 Try.ntmps33 ?_
  rintro args ⟨a, wa, hs, hw, rfl⟩ _
  exact absurd hs (Nat.not_lt_zero _)
theorem all33 (n : Nat) : FOk Try.prog T 33 (cpGn T [.i .i64, .i .i64, .i .i64, .s, .l 40, .l 9, .l 74] n) := by
  induction n with
  | zero => exact zero33
  | succ n ih => exact step33 n ih
theorem ok33 : FOk Try.prog T 33 (cpG T [.i .i64, .i .i64, .i .i64, .s, .l 40, .l 9, .l 74]) := FOk.lift (s := fun n => (cpGn T [.i .i64, .i .i64, .i .i64, .s, .l 40, .l 9, .l 74] n)) all33 (fun args ⟨a, wa, hw, h⟩ => ⟨SizeOf.sizeOf a + 1, a, wa, Nat.lt_succ_self _, hw, h⟩) (fun n => rfl)
/-- spec.l16Read -/
theorem ok18 : FOk Try.prog T 18 (cpG T [.i .i64, .i .i64, .i .i64, .s, .i .i64, .i .i64, .i .i64, .s, .l 40, .l 9, .l 74]) := by
  refine fok (env := envL [(33, (cpG T [.i .i64, .i .i64, .i .i64, .s, .l 40, .l 9, .l 74]))]) (N := 8) tabT (envL_cons ok33 envL_nil) mixed Try.func18 rfl Try.call18 Try.ntmps18 ?_
  rintro args ⟨a, wa, hw, rfl⟩ hwf
  refine ⟨by simp, ?_⟩
  clear hwf
  rw [Try.results18]
  repeat' first
    | (refine And.intro ?_ ?_)
    | (intro h; simp only [reduceCtorEq] at h; done)
    | (intro h; rw [h])
    | (intro h)
  all_goals first
    | (show lowEdges _ = true; kernel_rfl) | (show logOk _ _ = true; kernel_rfl) | exact True.intro | exact Or.inr rfl | exact Or.inl rfl
    | exact ⟨_, wa.sub 4 7 (by decide), wSubR_le 4 7 wa (by decide) hw, rfl⟩
    | exact ⟨_, wCellR_le hw 8, rfl⟩
    | exact ⟨_, wCellR_le hw 9, rfl⟩
    | exact ⟨_, wCellR_le hw 10, rfl⟩
    | (have q := wCellR_le hw 8; show 0 + (a.getD 8 default).rows.length ≤ maxLen; simp only [maxLen]; omega)
    | (have q := wCellR_le hw 9; show 0 + (a.getD 9 default).rows.length ≤ maxLen; simp only [maxLen]; omega)
    | (have q := wCellR_le hw 10; show 0 + (a.getD 10 default).rows.length ≤ maxLen; simp only [maxLen]; omega)
    | (have q := wCellR_le hw 8; show (0 + (a.getD 8 default).rows.length) * 112 ≤ 140737488355328; omega)
    | (have q := wCellR_le hw 9; show (0 + (a.getD 9 default).rows.length) * 16 ≤ 140737488355328; omega)
    | (have q := wCellR_le hw 10; show (0 + (a.getD 10 default).rows.length) * 48 ≤ 140737488355328; omega)
    | rfl
    | skip
/-- spec.l16Reads -/
theorem ok31 : FOk Try.prog T 31 (cpS 42) := by
  refine fok (env := envL [(18, (cpG T [.i .i64, .i .i64, .i .i64, .s, .i .i64, .i .i64, .i .i64, .s, .l 40, .l 9, .l 74]))]) (N := 21) tabT (envL_cons ok18 envL_nil) mixed Try.func31 rfl Try.call31 Try.ntmps31 ?_
  rintro args ⟨a, hw, rfl⟩ hwf
  have wa : WfD T (.l 42) (.l a) := arg0 hwf (List.mem_singleton_self _)
  clear hwf
  have la : a.length ≤ maxLen := wa.len
  refine ⟨by simp, ?_⟩
  rw [Try.results31]
  repeat' first
    | (refine And.intro ?_ ?_)
    | (intro h; simp only [reduceCtorEq] at h; done)
    | (intro h; rw [h])
    | (intro h)
  all_goals first
    | (show lowEdges _ = true; kernel_rfl) | (show logOk _ _ = true; kernel_rfl) | exact True.intro | exact Or.inr rfl | exact Or.inl rfl
    | skip
  refine awp_loop (Q := _) [0, 3, 4] [] (fun n s => ∃ i : Int, s = ([argS 42 a, .val false [.sl true 42 (a.take i.toNat)], .val false [.i .i64 i]], []) ∧ 0 ≤ i ∧ i ≤ a.length ∧ n = a.length - i.toNat) ?_ ?_
  · exact ⟨rfl, a.length - 0, 0, rfl, by omega, by omega, rfl⟩
  rintro n s ⟨i, rfl, h1, h2, h3⟩
  repeat' first
    | (refine And.intro ?_ ?_)
    | (intro h; simp only [reduceCtorEq] at h; done)
    | (intro h; rw [h])
    | (intro h)
  all_goals first
    | (show lowEdges _ = true; kernel_rfl) | (show logOk _ _ = true; kernel_rfl) | exact True.intro | exact Or.inr rfl | exact Or.inl rfl
    | omega
    | exact of_decide_eq_true ‹_›
    | exact resSl (take_all h1 h2 ‹_›)
    | (have hi : i < (a.length : Int) := of_decide_eq_true ‹decide (i < (a.length : Int)) = true›
       have wr : WfRow T [.i .i64, .i .i64, .i .i64, .s, .i .i64, .i .i64, .i .i64, .s, .l 40, .l 9, .l 74] (a.getD i.toNat []) := wa.row rfl (by omega)
       have hwr := wRow_le (a := a) (k := i.toNat) (by omega)
       first
         | exact ⟨_, wr, by omega, rfl⟩
         | exact ⟨_, wr, Nat.lt_of_lt_of_le (size_row (by omega)) (Nat.le_of_lt_succ hs), by omega, rfl⟩
         | exact ⟨_, wr.sub 4 7 (by decide), Nat.le_trans (wSub_le (by rw [wr.1]; decide)) (by omega), rfl⟩
         | exact ⟨_, Nat.le_trans (wRows_cell (a.getD i.toNat []) 8) (by omega), rfl⟩
         | exact ⟨_, Nat.le_trans (wRows_cell (a.getD i.toNat []) 9) (by omega), rfl⟩
         | exact ⟨_, Nat.le_trans (wRows_cell (a.getD i.toNat []) 10) (by omega), rfl⟩
         | (rw [take_len h1 h2]; show i.toNat + 1 ≤ maxLen; simp only [maxLen]; omega)
         | (rw [take_len h1 h2]; show (i.toNat + 1) * 152 ≤ _; omega)
         | (refine ⟨a.length - (i + 1).toNat, by omega, i + 1, ?_, by omega, by omega, rfl⟩
            exact snapT (fun r z => (([argS 42 a, .val false [.sl true 42 r], .val false [.i .i64 z]], []) : Snap)) (take_app h1 hi (csD_rowC wr)) (wrap_next h1 hi la)))
    | exact rfl
/-- impl.copyReads -/
theorem ok14 : FOk Try.prog T 14 (cpS 42) := by
  refine fok (env := envL [(27, (cpG T [.i .i64, .i .i64, .i .i64, .s, .l 40, .l 9, .l 74]))]) (N := 23) tabT (envL_cons ok27 envL_nil) mixed Try.func14 rfl Try.call14 Try.ntmps14 ?_
  rintro args ⟨a, hw, rfl⟩ hwf
  have wa : WfD T (.l 42) (.l a) := arg0 hwf (List.mem_singleton_self _)
  clear hwf
  have la : a.length ≤ maxLen := wa.len
  refine ⟨by simp, ?_⟩
  rw [Try.results14]
  repeat' first
    | (refine And.intro ?_ ?_)
    | (intro h; simp only [reduceCtorEq] at h; done)
    | (intro h; rw [h])
    | (intro h)
  all_goals first
    | (show lowEdges _ = true; kernel_rfl) | (show logOk _ _ = true; kernel_rfl) | exact True.intro | exact Or.inr rfl | exact Or.inl rfl
    | skip
  refine awp_loop (Q := _) [3, 7, 8, 9] [] (fun n s => ∃ i : Int, s = ([.val false [.sl true 42 (a.take i.toNat)], argS 42 a, .val false [.i .i64 a.length], .val false [.i .i64 i]], []) ∧ 0 ≤ i ∧ i ≤ a.length ∧ n = a.length - i.toNat) ?_ ?_
  · exact ⟨rfl, a.length - 0, 0, rfl, by omega, by omega, rfl⟩
  rintro n s ⟨i, rfl, h1, h2, h3⟩
  repeat' first
    | (refine And.intro ?_ ?_)
    | (intro h; simp only [reduceCtorEq] at h; done)
    | (intro h; rw [h])
    | (intro h)
  all_goals first
    | (show lowEdges _ = true; kernel_rfl) | (show logOk _ _ = true; kernel_rfl) | exact True.intro | exact Or.inr rfl | exact Or.inl rfl
    | omega
    | exact of_decide_eq_true ‹_›
    | exact resSl (take_all h1 h2 ‹_›)
    | (have hi : i < (a.length : Int) := of_decide_eq_true ‹decide (i < (a.length : Int)) = true›
       have wr : WfRow T [.i .i64, .i .i64, .i .i64, .s, .i .i64, .i .i64, .i .i64, .s, .l 40, .l 9, .l 74] (a.getD i.toNat []) := wa.row rfl (by omega)
       have hwr := wRow_le (a := a) (k := i.toNat) (by omega)
       first
         | exact ⟨_, wr, by omega, rfl⟩
         | exact ⟨_, wr, Nat.lt_of_lt_of_le (size_row (by omega)) (Nat.le_of_lt_succ hs), by omega, rfl⟩
         | exact ⟨_, wr.sub 4 7 (by decide), Nat.le_trans (wSub_le (by rw [wr.1]; decide)) (by omega), rfl⟩
         | exact ⟨_, Nat.le_trans (wRows_cell (a.getD i.toNat []) 8) (by omega), rfl⟩
         | exact ⟨_, Nat.le_trans (wRows_cell (a.getD i.toNat []) 9) (by omega), rfl⟩
         | exact ⟨_, Nat.le_trans (wRows_cell (a.getD i.toNat []) 10) (by omega), rfl⟩
         | (rw [take_len h1 h2]; show i.toNat + 1 ≤ maxLen; simp only [maxLen]; omega)
         | (rw [take_len h1 h2]; show (i.toNat + 1) * 152 ≤ _; omega)
         | (refine ⟨a.length - (i + 1).toNat, by omega, i + 1, ?_, by omega, by omega, rfl⟩
            exact snapT (fun r z => (([.val false [.sl true 42 r], argS 42 a, .val false [.i .i64 a.length], .val false [.i .i64 z]], []) : Snap)) (take_app h1 hi (csD_rowC wr)) (wrap_next h1 hi la)))
    | exact rfl
/-- spec.l26Copy -/
theorem ok19 : FOk Try.prog T 19 (cpS 32) := by
  refine fok (env := envL [(31, (cpS 42))]) (N := 33) tabT (envL_cons ok31 envL_nil) mixed Try.func19 rfl Try.call19 Try.ntmps19 ?_
  rintro args ⟨a, hw, rfl⟩ hwf
  have wa : WfD T (.l 32) (.l a) := arg0 hwf (List.mem_singleton_self _)
  clear hwf
  have la : a.length ≤ maxLen := wa.len
  refine ⟨by simp, ?_⟩
  rw [Try.results19]
  repeat' first
    | (refine And.intro ?_ ?_)
    | (intro h; simp only [reduceCtorEq] at h; done)
    | (intro h; rw [h])
    | (intro h)
  all_goals first
    | (show lowEdges _ = true; kernel_rfl) | (show logOk _ _ = true; kernel_rfl) | exact True.intro | exact Or.inr rfl | exact Or.inl rfl
    | skip
  refine awp_loop (Q := _) [0, 3, 4] [] (fun n s => ∃ i : Int, s = ([argS 32 a, .val false [.sl true 32 (a.take i.toNat)], .val false [.i .i64 i]], []) ∧ 0 ≤ i ∧ i ≤ a.length ∧ n = a.length - i.toNat) ?_ ?_
  · exact ⟨rfl, a.length - 0, 0, rfl, by omega, by omega, rfl⟩
  rintro n s ⟨i, rfl, h1, h2, h3⟩
  repeat' first
    | (refine And.intro ?_ ?_)
    | (intro h; simp only [reduceCtorEq] at h; done)
    | (intro h; rw [h])
    | (intro h)
  all_goals first
    | (show lowEdges _ = true; kernel_rfl) | (show logOk _ _ = true; kernel_rfl) | exact True.intro | exact Or.inr rfl | exact Or.inl rfl
    | omega
    | exact of_decide_eq_true ‹_›
    | exact resSl (take_all h1 h2 ‹_›)
    | (have hi : i < (a.length : Int) := of_decide_eq_true ‹decide (i < (a.length : Int)) = true›
       have wr : WfRow T [.i .i64, .i .i64, .l 42] (a.getD i.toNat []) := wa.row rfl (by omega)
       have hwr := wRow_le (a := a) (k := i.toNat) (by omega)
       first
         | exact ⟨_, wr, by omega, rfl⟩
         | exact ⟨_, wr, Nat.lt_of_lt_of_le (size_row (by omega)) (Nat.le_of_lt_succ hs), by omega, rfl⟩

         | exact ⟨_, Nat.le_trans (wRows_cell (a.getD i.toNat []) 2) (by omega), rfl⟩
         | (rw [take_len h1 h2]; show i.toNat + 1 ≤ maxLen; simp only [maxLen]; omega)
         | (rw [take_len h1 h2]; show (i.toNat + 1) * 40 ≤ _; omega)
         | (refine ⟨a.length - (i + 1).toNat, by omega, i + 1, ?_, by omega, by omega, rfl⟩
            exact snapT (fun r z => (([argS 32 a, .val false [.sl true 32 r], .val false [.i .i64 z]], []) : Snap)) (take_app h1 hi (csD_rowC wr)) (wrap_next h1 hi la)))
    | exact rfl
end Go.Proofs.Ytfmjpoibfpgfbaa.Ab
