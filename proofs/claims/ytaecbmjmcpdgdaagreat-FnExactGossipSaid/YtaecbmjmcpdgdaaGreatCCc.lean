/- Descriptions of deep copies: a structure's copy is as it was; a slice's copy is new. No program in sight. Deep copies: printed by a program of this claim. -/
import Derived.Test.YtaecbmjmcpdgdaaGreatCEd
namespace Go.Proofs.YtaecbmjmcpdgdaaGreat.Ab
open Go.RowKit
set_option linter.unusedVariables false
def cpG (T : Tab) (cts : List CT) : FSpec where
  pre args := ∃ a : List D, WfRow T cts a ∧ wRow a ≤ 1048576 ∧ args = [argG cts a]
  res args := match args with
    | [a] => a
    | _ => .none
def cpGn (T : Tab) (cts : List CT) (n : Nat) : FSpec where
  pre args := ∃ a : List D, WfRow T cts a ∧ SizeOf.sizeOf a < n ∧ wRow a ≤ 1048576 ∧ args = [argG cts a]
  res := (cpG T cts).res
def cpS (e : TypeId) : FSpec where
  pre args := ∃ a : List (List D), a.length + wRows a ≤ 1048576 ∧ args = [argS e a]
  res args := match args with
    | [.val _ [.sl _ _ a]] => .val false [.sl true e a]
    | _ => .none
def cpSn (e : TypeId) (n : Nat) : FSpec where
  pre args := ∃ a : List (List D), SizeOf.sizeOf a < n ∧ a.length + wRows a ≤ 1048576 ∧ args = [argS e a]
  res := (cpS e).res
theorem take_app {a : List (List D)} {i : Int} (h0 : 0 ≤ i) (hi : i < a.length) {r : List D} (hr : r = a.getD i.toNat []) : a.take i.toNat ++ [r] = a.take (i + 1).toNat := by
  have e : (i + 1).toNat = i.toNat + 1 := by omega
  rw [e, List.take_add_one, row_at h0 hi, hr]
  rfl
theorem take_all {a : List (List D)} {i : Int} (h0 : 0 ≤ i) (hi : i ≤ a.length) (h : decide (i < (a.length : Int)) = false) : a.take i.toNat = a := by
  have : ¬ i < (a.length : Int) := of_decide_eq_false h
  rw [show i.toNat = a.length by omega, List.take_length]
theorem take_len {a : List (List D)} {i : Int} (h0 : 0 ≤ i) (hi : i ≤ a.length) : (a.take i.toNat).length = i.toNat := by
  rw [List.length_take, Nat.min_eq_left (by omega)]
theorem wCellR_le {a : List D} (hw : wRow a ≤ 1048576) (j : Nat) : (a.getD j default).rows.length + wRows (a.getD j default).rows ≤ 1048576 := Nat.le_trans (wRows_cell a j) hw
theorem wSubR_le {T : Tab} {cts : List CT} {a : List D} (k n : Nat) (wa : WfRow T cts a) (hk : k + n ≤ cts.length) (hw : wRow a ≤ 1048576) : wRow (sub a k n) ≤ 1048576 := Nat.le_trans (wSub_le (by rw [wa.1]; exact hk)) hw
theorem snapT (f : List (List D) → Int → Snap) {r r' : List (List D)} {a b : Int} (h : r = r') (h2 : a = b) : f r a = f r' b := by rw [h, h2]
theorem resSl {e : TypeId} {a b : List (List D)} (h : a = b) : [CV.sl true e a] = [CV.sl true e b] := by rw [h]
end Go.Proofs.YtaecbmjmcpdgdaaGreat.Ab
namespace Go.Proofs.YtaecbmjmcpdgdaaGreat.Ab
open Go.RowKit
set_option linter.unusedVariables false
set_option linter.unusedSimpArgs false
set_option maxRecDepth 100000
set_option maxHeartbeats 1000000
theorem ok91 : FOk Tryz.prog T 91 (cpG T [.l 3, .l 133]) := by
  refine fok (env := envL []) (N := 12) tabT envL_nil mixed Tryz.func91 rfl Tryz.call91 Tryz.ntmps91 ?_
  rintro args ⟨a, wa, hw, rfl⟩ hwf
  refine ⟨by simp, ?_⟩
  clear hwf
  rw [Tryz.results91]
  repeat' first
    | (refine And.intro ?_ ?_)
    | (intro h; simp only [reduceCtorEq] at h; done)
    | (intro h; rw [h])
    | (intro h)
  all_goals first
    | (show lowEdges _ = true; kernel_rfl) | (show logOk _ _ = true; kernel_rfl) | exact True.intro | exact Or.inr rfl | exact Or.inl rfl
    | exact ⟨_, wCellR_le hw 0, rfl⟩
    | exact ⟨_, wCellR_le hw 1, rfl⟩
    | (have q := wCellR_le hw 0; show 0 + (a.getD 0 default).rows.length ≤ maxLen; simp only [maxLen]; omega)
    | (have q := wCellR_le hw 1; show 0 + (a.getD 1 default).rows.length ≤ maxLen; simp only [maxLen]; omega)
    | (have q := wCellR_le hw 0; show (0 + (a.getD 0 default).rows.length) * 8 ≤ 140737488355328; omega)
    | (have q := wCellR_le hw 1; show (0 + (a.getD 1 default).rows.length) * 16 ≤ 140737488355328; omega)
    | rfl
    | skip
theorem ok96 : FOk Tryz.prog T 96 (cpG T [.l 3, .l 133]) := by
  refine fok (env := envL []) (N := 12) tabT envL_nil mixed Tryz.func96 rfl Tryz.call96 Tryz.ntmps96 ?_
  rintro args ⟨a, wa, hw, rfl⟩ hwf
  refine ⟨by simp, ?_⟩
  clear hwf
  rw [Tryz.results96]
  repeat' first
    | (refine And.intro ?_ ?_)
    | (intro h; simp only [reduceCtorEq] at h; done)
    | (intro h; rw [h])
    | (intro h)
  all_goals first
    | (show lowEdges _ = true; kernel_rfl) | (show logOk _ _ = true; kernel_rfl) | exact True.intro | exact Or.inr rfl | exact Or.inl rfl
    | exact ⟨_, wCellR_le hw 0, rfl⟩
    | exact ⟨_, wCellR_le hw 1, rfl⟩
    | (have q := wCellR_le hw 0; show 0 + (a.getD 0 default).rows.length ≤ maxLen; simp only [maxLen]; omega)
    | (have q := wCellR_le hw 1; show 0 + (a.getD 1 default).rows.length ≤ maxLen; simp only [maxLen]; omega)
    | (have q := wCellR_le hw 0; show (0 + (a.getD 0 default).rows.length) * 8 ≤ 140737488355328; omega)
    | (have q := wCellR_le hw 1; show (0 + (a.getD 1 default).rows.length) * 16 ≤ 140737488355328; omega)
    | rfl
    | skip
theorem step68 (n : Nat) (hn : FOk Tryz.prog T 90 (cpSn 92 n)) : FOk Tryz.prog T 68 (cpGn T [.i .i64, .i .i64, .i .i64, .s, .l 92, .l 9, .l 115] (n + 1)) := by
  refine fok (env := envL [(90, (cpSn 92 n)), (91, (cpG T [.l 3, .l 133]))]) (N := 33) tabT (envL_cons hn (envL_cons ok91 envL_nil)) mixed Tryz.func68 rfl Tryz.call68 Tryz.ntmps68 ?_
  rintro args ⟨a, wa, hs, hw, rfl⟩ hwf
  clear hwf
  refine ⟨by simp, ?_⟩
  rw [Tryz.results68]
  repeat' first
    | (refine And.intro ?_ ?_)
    | (intro h; simp only [reduceCtorEq] at h; done)
    | (intro h; rw [h])
    | (intro h)
  all_goals first
    | (show lowEdges _ = true; kernel_rfl) | (show logOk _ _ = true; kernel_rfl) | exact True.intro | exact Or.inr rfl | exact Or.inl rfl
    | exact ⟨_, wCellR_le hw 4, rfl⟩
    | exact ⟨_, wCellR_le hw 5, rfl⟩
    | exact ⟨_, wCellR_le hw 6, rfl⟩
    | exact ⟨_, Nat.lt_of_lt_of_le (size_cell (by rw [wa.1]; decide)) (Nat.le_of_lt_succ hs), wCellR_le hw 4, rfl⟩
    | exact ⟨_, Nat.lt_of_lt_of_le (size_cell (by rw [wa.1]; decide)) (Nat.le_of_lt_succ hs), wCellR_le hw 5, rfl⟩
    | exact ⟨_, Nat.lt_of_lt_of_le (size_cell (by rw [wa.1]; decide)) (Nat.le_of_lt_succ hs), wCellR_le hw 6, rfl⟩
    | (have q := wCellR_le hw 4; show 0 + (a.getD 4 default).rows.length ≤ maxLen; simp only [maxLen]; omega)
    | (have q := wCellR_le hw 5; show 0 + (a.getD 5 default).rows.length ≤ maxLen; simp only [maxLen]; omega)
    | (have q := wCellR_le hw 6; show 0 + (a.getD 6 default).rows.length ≤ maxLen; simp only [maxLen]; omega)
    | (have q := wCellR_le hw 4; show (0 + (a.getD 4 default).rows.length) * 112 ≤ 140737488355328; omega)
    | (have q := wCellR_le hw 5; show (0 + (a.getD 5 default).rows.length) * 16 ≤ 140737488355328; omega)
    | (have q := wCellR_le hw 6; show (0 + (a.getD 6 default).rows.length) * 48 ≤ 140737488355328; omega)
    | skip
  have wR0 : WfD T (.l 115) (.l (a.getD 6 default).rows) := wa.rows (j := 6) rfl
  have lR0 : (a.getD 6 default).rows.length ≤ maxLen := wR0.len
  have hR0 := wCellR_le hw 6
  have zR0 : SizeOf.sizeOf (a.getD 6 default).rows < SizeOf.sizeOf a := size_cell (by rw [wa.1]; decide)
  refine awp_loop (Q := _) [1, 2, 3, 18, 19, 20] [1, 2, 3] (fun n s => ∃ i : Int, s = ([.ptr 1 1 0, .ptr 2 1 0, .ptr 3 1 0, .val false [.sl false 115 (a.getD 6 default).rows], .val false [.i .i64 (a.getD 6 default).rows.length], .val false [.i .i64 i]], [(1, (rowC [.i .i64, .i .i64, .i .i64, .s, .l 92, .l 9, .l 115] a).map fun c => .val false [c]), (1, [.val false [.i .i64 0], .val false [.i .i64 0], .val false [.i .i64 0], .val false [.s ByteArray.empty], .val false [.sl true 92 []], .val false [.sl true 9 []], .val false [.sl true 115 []]]), (1, [.val false [.i .i64 (a.getD 0 default).int], .val false [.i .i64 (a.getD 1 default).int], .val false [.i .i64 (a.getD 2 default).int], .val false [.s (a.getD 3 default).str], .val false [.sl true 92 (a.getD 4 default).rows], .val false [.sl true 9 (a.getD 5 default).rows], .val false [.sl true 115 ((a.getD 6 default).rows.take i.toNat)]])]) ∧ 0 ≤ i ∧ i ≤ (a.getD 6 default).rows.length ∧ n = (a.getD 6 default).rows.length - i.toNat) ?_ ?_
  · exact ⟨rfl, (a.getD 6 default).rows.length - 0, 0, rfl, by omega, by omega, rfl⟩
  rintro n0 s ⟨i, rfl, h1, h2, h3⟩
  repeat' first
    | (refine And.intro ?_ ?_)
    | (intro h; simp only [reduceCtorEq] at h; done)
    | (intro h; rw [h])
    | (intro h)
  all_goals first
    | (show lowEdges _ = true; kernel_rfl) | (show logOk _ _ = true; kernel_rfl) | exact True.intro | exact Or.inr rfl | exact Or.inl rfl
    | omega
    | exact of_decide_eq_true ‹_›
    | (have hi : i < ((a.getD 6 default).rows.length : Int) := of_decide_eq_true ‹decide (i < ((a.getD 6 default).rows.length : Int)) = true›
       have wr : WfRow T [.l 3, .l 133] ((a.getD 6 default).rows.getD i.toNat []) := wR0.row rfl (by omega)
       have hwr := wRow_le (a := (a.getD 6 default).rows) (k := i.toNat) (by omega)
       first
         | exact ⟨_, wr, by omega, rfl⟩
         | exact ⟨_, wr, Nat.lt_of_lt_of_le (Nat.lt_trans (size_row (by omega)) zR0) (Nat.le_of_lt_succ hs), by omega, rfl⟩
         | (rw [take_len h1 h2]; show i.toNat + 1 ≤ maxLen; simp only [maxLen]; omega)
         | (rw [take_len h1 h2]; show (i.toNat + 1) * 48 ≤ _; omega)
         | (refine ⟨(a.getD 6 default).rows.length - (i + 1).toNat, by omega, i + 1, ?_, by omega, by omega, rfl⟩
            exact snapT (fun r z => (([.ptr 1 1 0, .ptr 2 1 0, .ptr 3 1 0, .val false [.sl false 115 (a.getD 6 default).rows], .val false [.i .i64 (a.getD 6 default).rows.length], .val false [.i .i64 z]], [(1, (rowC [.i .i64, .i .i64, .i .i64, .s, .l 92, .l 9, .l 115] a).map fun c => .val false [c]), (1, [.val false [.i .i64 0], .val false [.i .i64 0], .val false [.i .i64 0], .val false [.s ByteArray.empty], .val false [.sl true 92 []], .val false [.sl true 9 []], .val false [.sl true 115 []]]), (1, [.val false [.i .i64 (a.getD 0 default).int], .val false [.i .i64 (a.getD 1 default).int], .val false [.i .i64 (a.getD 2 default).int], .val false [.s (a.getD 3 default).str], .val false [.sl true 92 (a.getD 4 default).rows], .val false [.sl true 9 (a.getD 5 default).rows], .val false [.sl true 115 r]])]) : Snap)) (take_app h1 hi (csD_rowC wr)) (wrap_next h1 hi lR0)))
    | exact rfl
    | skip
  have hT0 : (a.getD 6 default).rows.take i.toNat = (a.getD 6 default).rows := take_all h1 h2 ‹decide (i < ((a.getD 6 default).rows.length : Int)) = false›
  rw [hT0]
  rfl
theorem step90 (n : Nat) (hn : FOk Tryz.prog T 68 (cpGn T [.i .i64, .i .i64, .i .i64, .s, .l 92, .l 9, .l 115] n)) : FOk Tryz.prog T 90 (cpSn 92 (n + 1)) := by
  refine fok (env := envL [(68, (cpGn T [.i .i64, .i .i64, .i .i64, .s, .l 92, .l 9, .l 115] n))]) (N := 20) tabT (envL_cons hn envL_nil) mixed Tryz.func90 rfl Tryz.call90 Tryz.ntmps90 ?_
  rintro args ⟨a, hs, hw, rfl⟩ hwf
  have wa : WfD T (.l 92) (.l a) := arg0 hwf (List.mem_singleton_self _)
  clear hwf
  have la : a.length ≤ maxLen := wa.len
  refine ⟨by simp, ?_⟩
  rw [Tryz.results90]
  repeat' first
    | (refine And.intro ?_ ?_)
    | (intro h; simp only [reduceCtorEq] at h; done)
    | (intro h; rw [h])
    | (intro h)
  all_goals first
    | (show lowEdges _ = true; kernel_rfl) | (show logOk _ _ = true; kernel_rfl) | exact True.intro | exact Or.inr rfl | exact Or.inl rfl
    | skip
  refine awp_loop (Q := _) [3, 7, 8, 9] [] (fun n s => ∃ i : Int, s = ([.val false [.sl true 92 (a.take i.toNat)], argS 92 a, .val false [.i .i64 a.length], .val false [.i .i64 i]], []) ∧ 0 ≤ i ∧ i ≤ a.length ∧ n = a.length - i.toNat) ?_ ?_
  · exact ⟨rfl, a.length - 0, 0, rfl, by omega, by omega, rfl⟩
  rintro n s ⟨i, rfl, h1, h2, h3⟩
  repeat' first
    | (refine And.intro ?_ ?_)
    | (intro h; simp only [reduceCtorEq] at h; done)
    | (intro h; rw [h])
    | (intro h)
  all_goals first
    | (show lowEdges _ = true; kernel_rfl) | (show logOk _ _ = true; kernel_rfl) | exact True.intro | exact Or.inr rfl | exact Or.inl rfl
    | omega
    | exact of_decide_eq_true ‹_›
    | exact resSl (take_all h1 h2 ‹_›)
    | (have hi : i < (a.length : Int) := of_decide_eq_true ‹decide (i < (a.length : Int)) = true›
       have wr : WfRow T [.i .i64, .i .i64, .i .i64, .s, .l 92, .l 9, .l 115] (a.getD i.toNat []) := wa.row rfl (by omega)
       have hwr := wRow_le (a := a) (k := i.toNat) (by omega)
       first
         | exact ⟨_, wr, by omega, rfl⟩
         | exact ⟨_, wr, Nat.lt_of_lt_of_le (size_row (by omega)) (Nat.le_of_lt_succ hs), by omega, rfl⟩

         | exact ⟨_, Nat.le_trans (wRows_cell (a.getD i.toNat []) 4) (by omega), rfl⟩
         | exact ⟨_, Nat.le_trans (wRows_cell (a.getD i.toNat []) 5) (by omega), rfl⟩
         | exact ⟨_, Nat.le_trans (wRows_cell (a.getD i.toNat []) 6) (by omega), rfl⟩
         | (rw [take_len h1 h2]; show i.toNat + 1 ≤ maxLen; simp only [maxLen]; omega)
         | (rw [take_len h1 h2]; show (i.toNat + 1) * 112 ≤ _; omega)
         | (refine ⟨a.length - (i + 1).toNat, by omega, i + 1, ?_, by omega, by omega, rfl⟩
            exact snapT (fun r z => (([.val false [.sl true 92 r], argS 92 a, .val false [.i .i64 a.length], .val false [.i .i64 z]], []) : Snap)) (take_app h1 hi (csD_rowC wr)) (wrap_next h1 hi la)))
    | exact rfl
theorem zero68 : FOk Tryz.prog T 68 (cpGn T [.i .i64, .i .i64, .i .i64, .s, .l 92, .l 9, .l 115] 0) := by
  refine fok (env := envL []) (N := 33) tabT envL_nil mixed Tryz.func68 rfl Tryz.call68 Tryz.ntmps68 ?_
  rintro args ⟨a, wa, hs, hw, rfl⟩ _
  exact absurd hs (Nat.not_lt_zero _)
theorem zero90 : FOk Tryz.prog T 90 (cpSn 92 0) := by
  refine fok (env := envL []) (N := 20) tabT envL_nil mixed Tryz.func90 rfl Tryz.call90 Tryz.ntmps90 ?_
  rintro args ⟨a, hs, hw, rfl⟩ _
  exact absurd hs (Nat.not_lt_zero _)
theorem both68 (n : Nat) : FOk Tryz.prog T 68 (cpGn T [.i .i64, .i .i64, .i .i64, .s, .l 92, .l 9, .l 115] n) ∧ FOk Tryz.prog T 90 (cpSn 92 n) := by
  induction n with
  | zero => exact ⟨zero68, zero90⟩
  | succ n ih => exact ⟨step68 n ih.2, step90 n ih.1⟩
theorem ok68 : FOk Tryz.prog T 68 (cpG T [.i .i64, .i .i64, .i .i64, .s, .l 92, .l 9, .l 115]) := FOk.lift (s := fun n => (cpGn T [.i .i64, .i .i64, .i .i64, .s, .l 92, .l 9, .l 115] n)) (fun n => (both68 n).1) (fun args ⟨a, wa, hw, h⟩ => ⟨SizeOf.sizeOf a + 1, a, wa, Nat.lt_succ_self _, hw, h⟩) (fun n => rfl)
theorem step87 (n : Nat) (hn : FOk Tryz.prog T 87 (cpGn T [.i .i64, .i .i64, .i .i64, .s, .l 92, .l 9, .l 115] n)) : FOk Tryz.prog T 87 (cpGn T [.i .i64, .i .i64, .i .i64, .s, .l 92, .l 9, .l 115] (n + 1)) := by
  refine fok (env := envL [(87, (cpGn T [.i .i64, .i .i64, .i .i64, .s, .l 92, .l 9, .l 115] n)), (96, (cpG T [.l 3, .l 133]))]) (N := 56) tabT (envL_cons hn (envL_cons ok96 envL_nil)) mixed Tryz.func87 rfl Tryz.call87 Tryz.ntmps87 ?_
  rintro args ⟨a, wa, hs, hw, rfl⟩ hwf
  clear hwf
  refine ⟨by simp, ?_⟩
  rw [Tryz.results87]
  repeat' first
    | (refine And.intro ?_ ?_)
    | (intro h; simp only [reduceCtorEq] at h; done)
    | (intro h; rw [h])
    | (intro h)
  all_goals first
    | (show lowEdges _ = true; kernel_rfl) | (show logOk _ _ = true; kernel_rfl) | exact True.intro | exact Or.inr rfl | exact Or.inl rfl
    | exact ⟨_, wCellR_le hw 4, rfl⟩
    | exact ⟨_, wCellR_le hw 5, rfl⟩
    | exact ⟨_, wCellR_le hw 6, rfl⟩
    | exact ⟨_, Nat.lt_of_lt_of_le (size_cell (by rw [wa.1]; decide)) (Nat.le_of_lt_succ hs), wCellR_le hw 4, rfl⟩
    | exact ⟨_, Nat.lt_of_lt_of_le (size_cell (by rw [wa.1]; decide)) (Nat.le_of_lt_succ hs), wCellR_le hw 5, rfl⟩
    | exact ⟨_, Nat.lt_of_lt_of_le (size_cell (by rw [wa.1]; decide)) (Nat.le_of_lt_succ hs), wCellR_le hw 6, rfl⟩
    | (have q := wCellR_le hw 4; show 0 + (a.getD 4 default).rows.length ≤ maxLen; simp only [maxLen]; omega)
    | (have q := wCellR_le hw 5; show 0 + (a.getD 5 default).rows.length ≤ maxLen; simp only [maxLen]; omega)
    | (have q := wCellR_le hw 6; show 0 + (a.getD 6 default).rows.length ≤ maxLen; simp only [maxLen]; omega)
    | (have q := wCellR_le hw 4; show (0 + (a.getD 4 default).rows.length) * 112 ≤ 140737488355328; omega)
    | (have q := wCellR_le hw 5; show (0 + (a.getD 5 default).rows.length) * 16 ≤ 140737488355328; omega)
    | (have q := wCellR_le hw 6; show (0 + (a.getD 6 default).rows.length) * 48 ≤ 140737488355328; omega)
    | skip
  have wR0 : WfD T (.l 92) (.l (a.getD 4 default).rows) := wa.rows (j := 4) rfl
  have lR0 : (a.getD 4 default).rows.length ≤ maxLen := wR0.len
  have hR0 := wCellR_le hw 4
  have zR0 : SizeOf.sizeOf (a.getD 4 default).rows < SizeOf.sizeOf a := size_cell (by rw [wa.1]; decide)
  refine awp_loop (Q := _) [1, 2, 3, 4] [1, 2, 3] (fun n s => ∃ i : Int, s = ([.ptr 1 1 0, .ptr 2 1 0, .ptr 3 1 0, .val false [.i .i64 i]], [(1, (rowC [.i .i64, .i .i64, .i .i64, .s, .l 92, .l 9, .l 115] a).map fun c => .val false [c]), (1, [.val false [.i .i64 0], .val false [.i .i64 0], .val false [.i .i64 0], .val false [.s ByteArray.empty], .val false [.sl true 92 []], .val false [.sl true 9 []], .val false [.sl true 115 []]]), (1, [.val false [.i .i64 (a.getD 0 default).int], .val false [.i .i64 (a.getD 1 default).int], .val false [.i .i64 (a.getD 2 default).int], .val false [.s (a.getD 3 default).str], .val false [.sl true 92 ((a.getD 4 default).rows.take i.toNat)], .val false [.sl true 9 (a.getD 5 default).rows], .val false [.sl true 115 []]])]) ∧ 0 ≤ i ∧ i ≤ (a.getD 4 default).rows.length ∧ n = (a.getD 4 default).rows.length - i.toNat) ?_ ?_
  · exact ⟨rfl, (a.getD 4 default).rows.length - 0, 0, rfl, by omega, by omega, rfl⟩
  rintro n0 s ⟨i, rfl, h1, h2, h3⟩
  repeat' first
    | (refine And.intro ?_ ?_)
    | (intro h; simp only [reduceCtorEq] at h; done)
    | (intro h; rw [h])
    | (intro h)
  all_goals first
    | (show lowEdges _ = true; kernel_rfl) | (show logOk _ _ = true; kernel_rfl) | exact True.intro | exact Or.inr rfl | exact Or.inl rfl
    | omega
    | exact of_decide_eq_true ‹_›
    | (have hi : i < ((a.getD 4 default).rows.length : Int) := of_decide_eq_true ‹decide (i < ((a.getD 4 default).rows.length : Int)) = true›
       have wr : WfRow T [.i .i64, .i .i64, .i .i64, .s, .l 92, .l 9, .l 115] ((a.getD 4 default).rows.getD i.toNat []) := wR0.row rfl (by omega)
       have hwr := wRow_le (a := (a.getD 4 default).rows) (k := i.toNat) (by omega)
       first
         | exact ⟨_, wr, by omega, rfl⟩
         | exact ⟨_, wr, Nat.lt_of_lt_of_le (Nat.lt_trans (size_row (by omega)) zR0) (Nat.le_of_lt_succ hs), by omega, rfl⟩
         | (rw [take_len h1 h2]; show i.toNat + 1 ≤ maxLen; simp only [maxLen]; omega)
         | (rw [take_len h1 h2]; show (i.toNat + 1) * 112 ≤ _; omega)
         | (refine ⟨(a.getD 4 default).rows.length - (i + 1).toNat, by omega, i + 1, ?_, by omega, by omega, rfl⟩
            exact snapT (fun r z => (([.ptr 1 1 0, .ptr 2 1 0, .ptr 3 1 0, .val false [.i .i64 z]], [(1, (rowC [.i .i64, .i .i64, .i .i64, .s, .l 92, .l 9, .l 115] a).map fun c => .val false [c]), (1, [.val false [.i .i64 0], .val false [.i .i64 0], .val false [.i .i64 0], .val false [.s ByteArray.empty], .val false [.sl true 92 []], .val false [.sl true 9 []], .val false [.sl true 115 []]]), (1, [.val false [.i .i64 (a.getD 0 default).int], .val false [.i .i64 (a.getD 1 default).int], .val false [.i .i64 (a.getD 2 default).int], .val false [.s (a.getD 3 default).str], .val false [.sl true 92 r], .val false [.sl true 9 (a.getD 5 default).rows], .val false [.sl true 115 []]])]) : Snap)) (take_app h1 hi (csD_rowC wr)) (wrap_next h1 hi lR0)))
    | exact rfl
    | skip
  have hT0 : (a.getD 4 default).rows.take i.toNat = (a.getD 4 default).rows := take_all h1 h2 ‹decide (i < ((a.getD 4 default).rows.length : Int)) = false›
  rw [hT0]
  clear h1 h2 h3 hT0
  have wR1 : WfD T (.l 115) (.l (a.getD 6 default).rows) := wa.rows (j := 6) rfl
  have lR1 : (a.getD 6 default).rows.length ≤ maxLen := wR1.len
  have hR1 := wCellR_le hw 6
  have zR1 : SizeOf.sizeOf (a.getD 6 default).rows < SizeOf.sizeOf a := size_cell (by rw [wa.1]; decide)
  refine awp_loop (Q := _) [1, 2, 3, 5] [1, 2, 3] (fun n s => ∃ i : Int, s = ([.ptr 1 1 0, .ptr 2 1 0, .ptr 3 1 0, .val false [.i .i64 i]], [(1, (rowC [.i .i64, .i .i64, .i .i64, .s, .l 92, .l 9, .l 115] a).map fun c => .val false [c]), (1, [.val false [.i .i64 0], .val false [.i .i64 0], .val false [.i .i64 0], .val false [.s ByteArray.empty], .val false [.sl true 92 []], .val false [.sl true 9 []], .val false [.sl true 115 []]]), (1, [.val false [.i .i64 (a.getD 0 default).int], .val false [.i .i64 (a.getD 1 default).int], .val false [.i .i64 (a.getD 2 default).int], .val false [.s (a.getD 3 default).str], .val false [.sl true 92 (a.getD 4 default).rows], .val false [.sl true 9 (a.getD 5 default).rows], .val false [.sl true 115 ((a.getD 6 default).rows.take i.toNat)]])]) ∧ 0 ≤ i ∧ i ≤ (a.getD 6 default).rows.length ∧ n = (a.getD 6 default).rows.length - i.toNat) ?_ ?_
  · exact ⟨rfl, (a.getD 6 default).rows.length - 0, 0, rfl, by omega, by omega, rfl⟩
  rintro n1 s ⟨i, rfl, h1, h2, h3⟩
  repeat' first
    | (refine And.intro ?_ ?_)
    | (intro h; simp only [reduceCtorEq] at h; done)
    | (intro h; rw [h])
    | (intro h)
  all_goals first
    | (show lowEdges _ = true; kernel_rfl) | (show logOk _ _ = true; kernel_rfl) | exact True.intro | exact Or.inr rfl | exact Or.inl rfl
    | omega
    | exact of_decide_eq_true ‹_›
    | (have hi : i < ((a.getD 6 default).rows.length : Int) := of_decide_eq_true ‹decide (i < ((a.getD 6 default).rows.length : Int)) = true›
       have wr : WfRow T [.l 3, .l 133] ((a.getD 6 default).rows.getD i.toNat []) := wR1.row rfl (by omega)
       have hwr := wRow_le (a := (a.getD 6 default).rows) (k := i.toNat) (by omega)
       first
         | exact ⟨_, wr, by omega, rfl⟩
         | exact ⟨_, wr, Nat.lt_of_lt_of_le (Nat.lt_trans (size_row (by omega)) zR1) (Nat.le_of_lt_succ hs), by omega, rfl⟩
         | (rw [take_len h1 h2]; show i.toNat + 1 ≤ maxLen; simp only [maxLen]; omega)
         | (rw [take_len h1 h2]; show (i.toNat + 1) * 48 ≤ _; omega)
         | (refine ⟨(a.getD 6 default).rows.length - (i + 1).toNat, by omega, i + 1, ?_, by omega, by omega, rfl⟩
            exact snapT (fun r z => (([.ptr 1 1 0, .ptr 2 1 0, .ptr 3 1 0, .val false [.i .i64 z]], [(1, (rowC [.i .i64, .i .i64, .i .i64, .s, .l 92, .l 9, .l 115] a).map fun c => .val false [c]), (1, [.val false [.i .i64 0], .val false [.i .i64 0], .val false [.i .i64 0], .val false [.s ByteArray.empty], .val false [.sl true 92 []], .val false [.sl true 9 []], .val false [.sl true 115 []]]), (1, [.val false [.i .i64 (a.getD 0 default).int], .val false [.i .i64 (a.getD 1 default).int], .val false [.i .i64 (a.getD 2 default).int], .val false [.s (a.getD 3 default).str], .val false [.sl true 92 (a.getD 4 default).rows], .val false [.sl true 9 (a.getD 5 default).rows], .val false [.sl true 115 r]])]) : Snap)) (take_app h1 hi (csD_rowC wr)) (wrap_next h1 hi lR1)))
    | exact rfl
    | skip
  have hT1 : (a.getD 6 default).rows.take i.toNat = (a.getD 6 default).rows := take_all h1 h2 ‹decide (i < ((a.getD 6 default).rows.length : Int)) = false›
  rw [hT1]
  rfl
theorem zero87 : FOk Tryz.prog T 87 (cpGn T [.i .i64, .i .i64, .i .i64, .s, .l 92, .l 9, .l 115] 0) := by
  refine fok (env := envL []) (N := 56) tabT envL_nil mixed Tryz.func87 rfl Tryz.call87 Tryz.ntmps87 ?_
  rintro args ⟨a, wa, hs, hw, rfl⟩ _
  exact absurd hs (Nat.not_lt_zero _)
theorem all87 (n : Nat) : FOk Tryz.prog T 87 (cpGn T [.i .i64, .i .i64, .i .i64, .s, .l 92, .l 9, .l 115] n) := by
  induction n with
  | zero => exact zero87
  | succ n ih => exact step87 n ih
theorem ok87 : FOk Tryz.prog T 87 (cpG T [.i .i64, .i .i64, .i .i64, .s, .l 92, .l 9, .l 115]) := FOk.lift (s := fun n => (cpGn T [.i .i64, .i .i64, .i .i64, .s, .l 92, .l 9, .l 115] n)) all87 (fun args ⟨a, wa, hw, h⟩ => ⟨SizeOf.sizeOf a + 1, a, wa, Nat.lt_succ_self _, hw, h⟩) (fun n => rfl)
theorem ok64 : FOk Tryz.prog T 64 (cpG T [.i .i64, .i .i64, .i .i64, .s, .i .i64, .i .i64, .i .i64, .s, .l 92, .l 9, .l 115]) := by
  refine fok (env := envL [(87, (cpG T [.i .i64, .i .i64, .i .i64, .s, .l 92, .l 9, .l 115]))]) (N := 8) tabT (envL_cons ok87 envL_nil) mixed Tryz.func64 rfl Tryz.call64 Tryz.ntmps64 ?_
  rintro args ⟨a, wa, hw, rfl⟩ hwf
  refine ⟨by simp, ?_⟩
  clear hwf
  rw [Tryz.results64]
  repeat' first
    | (refine And.intro ?_ ?_)
    | (intro h; simp only [reduceCtorEq] at h; done)
    | (intro h; rw [h])
    | (intro h)
  all_goals first
    | (show lowEdges _ = true; kernel_rfl) | (show logOk _ _ = true; kernel_rfl) | exact True.intro | exact Or.inr rfl | exact Or.inl rfl
    | exact ⟨_, wa.sub 4 7 (by decide), wSubR_le 4 7 wa (by decide) hw, rfl⟩
    | exact ⟨_, wCellR_le hw 8, rfl⟩
    | exact ⟨_, wCellR_le hw 9, rfl⟩
    | exact ⟨_, wCellR_le hw 10, rfl⟩
    | (have q := wCellR_le hw 8; show 0 + (a.getD 8 default).rows.length ≤ maxLen; simp only [maxLen]; omega)
    | (have q := wCellR_le hw 9; show 0 + (a.getD 9 default).rows.length ≤ maxLen; simp only [maxLen]; omega)
    | (have q := wCellR_le hw 10; show 0 + (a.getD 10 default).rows.length ≤ maxLen; simp only [maxLen]; omega)
    | (have q := wCellR_le hw 8; show (0 + (a.getD 8 default).rows.length) * 112 ≤ 140737488355328; omega)
    | (have q := wCellR_le hw 9; show (0 + (a.getD 9 default).rows.length) * 16 ≤ 140737488355328; omega)
    | (have q := wCellR_le hw 10; show (0 + (a.getD 10 default).rows.length) * 48 ≤ 140737488355328; omega)
    | rfl
    | skip
theorem ok46 : FOk Tryz.prog T 46 (cpS 94) := by
  refine fok (env := envL [(64, (cpG T [.i .i64, .i .i64, .i .i64, .s, .i .i64, .i .i64, .i .i64, .s, .l 92, .l 9, .l 115]))]) (N := 21) tabT (envL_cons ok64 envL_nil) mixed Tryz.func46 rfl Tryz.call46 Tryz.ntmps46 ?_
  rintro args ⟨a, hw, rfl⟩ hwf
  have wa : WfD T (.l 94) (.l a) := arg0 hwf (List.mem_singleton_self _)
  clear hwf
  have la : a.length ≤ maxLen := wa.len
  refine ⟨by simp, ?_⟩
  rw [Tryz.results46]
  repeat' first
    | (refine And.intro ?_ ?_)
    | (intro h; simp only [reduceCtorEq] at h; done)
    | (intro h; rw [h])
    | (intro h)
  all_goals first
    | (show lowEdges _ = true; kernel_rfl) | (show logOk _ _ = true; kernel_rfl) | exact True.intro | exact Or.inr rfl | exact Or.inl rfl
    | skip
  refine awp_loop (Q := _) [0, 3, 4] [] (fun n s => ∃ i : Int, s = ([argS 94 a, .val false [.sl true 94 (a.take i.toNat)], .val false [.i .i64 i]], []) ∧ 0 ≤ i ∧ i ≤ a.length ∧ n = a.length - i.toNat) ?_ ?_
  · exact ⟨rfl, a.length - 0, 0, rfl, by omega, by omega, rfl⟩
  rintro n s ⟨i, rfl, h1, h2, h3⟩
  repeat' first
    | (refine And.intro ?_ ?_)
    | (intro h; simp only [reduceCtorEq] at h; done)
    | (intro h; rw [h])
    | (intro h)
  all_goals first
    | (show lowEdges _ = true; kernel_rfl) | (show logOk _ _ = true; kernel_rfl) | exact True.intro | exact Or.inr rfl | exact Or.inl rfl
    | omega
    | exact of_decide_eq_true ‹_›
    | exact resSl (take_all h1 h2 ‹_›)
    | (have hi : i < (a.length : Int) := of_decide_eq_true ‹decide (i < (a.length : Int)) = true›
       have wr : WfRow T [.i .i64, .i .i64, .i .i64, .s, .i .i64, .i .i64, .i .i64, .s, .l 92, .l 9, .l 115] (a.getD i.toNat []) := wa.row rfl (by omega)
       have hwr := wRow_le (a := a) (k := i.toNat) (by omega)
       first
         | exact ⟨_, wr, by omega, rfl⟩
         | exact ⟨_, wr, Nat.lt_of_lt_of_le (size_row (by omega)) (Nat.le_of_lt_succ hs), by omega, rfl⟩
         | exact ⟨_, wr.sub 4 7 (by decide), Nat.le_trans (wSub_le (by rw [wr.1]; decide)) (by omega), rfl⟩
         | exact ⟨_, Nat.le_trans (wRows_cell (a.getD i.toNat []) 8) (by omega), rfl⟩
         | exact ⟨_, Nat.le_trans (wRows_cell (a.getD i.toNat []) 9) (by omega), rfl⟩
         | exact ⟨_, Nat.le_trans (wRows_cell (a.getD i.toNat []) 10) (by omega), rfl⟩
         | (rw [take_len h1 h2]; show i.toNat + 1 ≤ maxLen; simp only [maxLen]; omega)
         | (rw [take_len h1 h2]; show (i.toNat + 1) * 152 ≤ _; omega)
         | (refine ⟨a.length - (i + 1).toNat, by omega, i + 1, ?_, by omega, by omega, rfl⟩
            exact snapT (fun r z => (([argS 94 a, .val false [.sl true 94 r], .val false [.i .i64 z]], []) : Snap)) (take_app h1 hi (csD_rowC wr)) (wrap_next h1 hi la)))
    | exact rfl
theorem ok49 : FOk Tryz.prog T 49 (cpS 94) := by
  refine fok (env := envL [(68, (cpG T [.i .i64, .i .i64, .i .i64, .s, .l 92, .l 9, .l 115]))]) (N := 23) tabT (envL_cons ok68 envL_nil) mixed Tryz.func49 rfl Tryz.call49 Tryz.ntmps49 ?_
  rintro args ⟨a, hw, rfl⟩ hwf
  have wa : WfD T (.l 94) (.l a) := arg0 hwf (List.mem_singleton_self _)
  clear hwf
  have la : a.length ≤ maxLen := wa.len
  refine ⟨by simp, ?_⟩
  rw [Tryz.results49]
  repeat' first
    | (refine And.intro ?_ ?_)
    | (intro h; simp only [reduceCtorEq] at h; done)
    | (intro h; rw [h])
    | (intro h)
  all_goals first
    | (show lowEdges _ = true; kernel_rfl) | (show logOk _ _ = true; kernel_rfl) | exact True.intro | exact Or.inr rfl | exact Or.inl rfl
    | skip
  refine awp_loop (Q := _) [3, 7, 8, 9] [] (fun n s => ∃ i : Int, s = ([.val false [.sl true 94 (a.take i.toNat)], argS 94 a, .val false [.i .i64 a.length], .val false [.i .i64 i]], []) ∧ 0 ≤ i ∧ i ≤ a.length ∧ n = a.length - i.toNat) ?_ ?_
  · exact ⟨rfl, a.length - 0, 0, rfl, by omega, by omega, rfl⟩
  rintro n s ⟨i, rfl, h1, h2, h3⟩
  repeat' first
    | (refine And.intro ?_ ?_)
    | (intro h; simp only [reduceCtorEq] at h; done)
    | (intro h; rw [h])
    | (intro h)
  all_goals first
    | (show lowEdges _ = true; kernel_rfl) | (show logOk _ _ = true; kernel_rfl) | exact True.intro | exact Or.inr rfl | exact Or.inl rfl
    | omega
    | exact of_decide_eq_true ‹_›
    | exact resSl (take_all h1 h2 ‹_›)
    | (have hi : i < (a.length : Int) := of_decide_eq_true ‹decide (i < (a.length : Int)) = true›
       have wr : WfRow T [.i .i64, .i .i64, .i .i64, .s, .i .i64, .i .i64, .i .i64, .s, .l 92, .l 9, .l 115] (a.getD i.toNat []) := wa.row rfl (by omega)
       have hwr := wRow_le (a := a) (k := i.toNat) (by omega)
       first
         | exact ⟨_, wr, by omega, rfl⟩
         | exact ⟨_, wr, Nat.lt_of_lt_of_le (size_row (by omega)) (Nat.le_of_lt_succ hs), by omega, rfl⟩
         | exact ⟨_, wr.sub 4 7 (by decide), Nat.le_trans (wSub_le (by rw [wr.1]; decide)) (by omega), rfl⟩
         | exact ⟨_, Nat.le_trans (wRows_cell (a.getD i.toNat []) 8) (by omega), rfl⟩
         | exact ⟨_, Nat.le_trans (wRows_cell (a.getD i.toNat []) 9) (by omega), rfl⟩
         | exact ⟨_, Nat.le_trans (wRows_cell (a.getD i.toNat []) 10) (by omega), rfl⟩
         | (rw [take_len h1 h2]; show i.toNat + 1 ≤ maxLen; simp only [maxLen]; omega)
         | (rw [take_len h1 h2]; show (i.toNat + 1) * 152 ≤ _; omega)
         | (refine ⟨a.length - (i + 1).toNat, by omega, i + 1, ?_, by omega, by omega, rfl⟩
            exact snapT (fun r z => (([.val false [.sl true 94 r], argS 94 a, .val false [.i .i64 a.length], .val false [.i .i64 z]], []) : Snap)) (take_app h1 hi (csD_rowC wr)) (wrap_next h1 hi la)))
    | exact rfl
theorem ok34 : FOk Tryz.prog T 34 (cpG T [.i .i64, .i .i64, .i .i64, .l 3, .i .i64, .i .i64, .i .i64, .i .i64, .i .i64, .s, .s, .i .i64, .s, .s, .i .i64, .i .i64, .l 94]) := by
  refine fok (env := envL [(49, (cpS 94))]) (N := 13) tabT (envL_cons ok49 envL_nil) mixed Tryz.func34 rfl Tryz.call34 Tryz.ntmps34 ?_
  rintro args ⟨a, wa, hw, rfl⟩ hwf
  refine ⟨by simp, ?_⟩
  clear hwf
  rw [Tryz.results34]
  repeat' first
    | (refine And.intro ?_ ?_)
    | (intro h; simp only [reduceCtorEq] at h; done)
    | (intro h; rw [h])
    | (intro h)
  all_goals first
    | (show lowEdges _ = true; kernel_rfl) | (show logOk _ _ = true; kernel_rfl) | exact True.intro | exact Or.inr rfl | exact Or.inl rfl
    | exact ⟨_, wa.sub 4 8 (by decide), wSubR_le 4 8 wa (by decide) hw, rfl⟩
    | exact ⟨_, wCellR_le hw 3, rfl⟩
    | exact ⟨_, wCellR_le hw 16, rfl⟩
    | (have q := wCellR_le hw 3; show 0 + (a.getD 3 default).rows.length ≤ maxLen; simp only [maxLen]; omega)
    | (have q := wCellR_le hw 16; show 0 + (a.getD 16 default).rows.length ≤ maxLen; simp only [maxLen]; omega)
    | (have q := wCellR_le hw 3; show (0 + (a.getD 3 default).rows.length) * 8 ≤ 140737488355328; omega)
    | (have q := wCellR_le hw 16; show (0 + (a.getD 16 default).rows.length) * 152 ≤ 140737488355328; omega)
    | rfl
    | skip
theorem ok29 : FOk Tryz.prog T 29 (cpG T [.i .i64, .i .i64, .i .i64, .l 3, .i .i64, .i .i64, .i .i64, .i .i64, .i .i64, .s, .s, .i .i64, .s, .s, .i .i64, .i .i64, .l 94]) := by
  refine fok (env := envL [(46, (cpS 94))]) (N := 13) tabT (envL_cons ok46 envL_nil) mixed Tryz.func29 rfl Tryz.call29 Tryz.ntmps29 ?_
  rintro args ⟨a, wa, hw, rfl⟩ hwf
  refine ⟨by simp, ?_⟩
  clear hwf
  rw [Tryz.results29]
  repeat' first
    | (refine And.intro ?_ ?_)
    | (intro h; simp only [reduceCtorEq] at h; done)
    | (intro h; rw [h])
    | (intro h)
  all_goals first
    | (show lowEdges _ = true; kernel_rfl) | (show logOk _ _ = true; kernel_rfl) | exact True.intro | exact Or.inr rfl | exact Or.inl rfl
    | exact ⟨_, wa.sub 4 8 (by decide), wSubR_le 4 8 wa (by decide) hw, rfl⟩
    | exact ⟨_, wCellR_le hw 3, rfl⟩
    | exact ⟨_, wCellR_le hw 16, rfl⟩
    | (have q := wCellR_le hw 3; show 0 + (a.getD 3 default).rows.length ≤ maxLen; simp only [maxLen]; omega)
    | (have q := wCellR_le hw 16; show 0 + (a.getD 16 default).rows.length ≤ maxLen; simp only [maxLen]; omega)
    | (have q := wCellR_le hw 3; show (0 + (a.getD 3 default).rows.length) * 8 ≤ 140737488355328; omega)
    | (have q := wCellR_le hw 16; show (0 + (a.getD 16 default).rows.length) * 152 ≤ 140737488355328; omega)
    | rfl
    | skip
theorem ok15 : FOk Tryz.prog T 15 (cpS 54) := by
  refine fok (env := envL [(29, (cpG T [.i .i64, .i .i64, .i .i64, .l 3, .i .i64, .i .i64, .i .i64, .i .i64, .i .i64, .s, .s, .i .i64, .s, .s, .i .i64, .i .i64, .l 94]))]) (N := 21) tabT (envL_cons ok29 envL_nil) mixed Tryz.func15 rfl Tryz.call15 Tryz.ntmps15 ?_
  rintro args ⟨a, hw, rfl⟩ hwf
  have wa : WfD T (.l 54) (.l a) := arg0 hwf (List.mem_singleton_self _)
  clear hwf
  have la : a.length ≤ maxLen := wa.len
  refine ⟨by simp, ?_⟩
  rw [Tryz.results15]
  repeat' first
    | (refine And.intro ?_ ?_)
    | (intro h; simp only [reduceCtorEq] at h; done)
    | (intro h; rw [h])
    | (intro h)
  all_goals first
    | (show lowEdges _ = true; kernel_rfl) | (show logOk _ _ = true; kernel_rfl) | exact True.intro | exact Or.inr rfl | exact Or.inl rfl
    | skip
  refine awp_loop (Q := _) [0, 3, 4] [] (fun n s => ∃ i : Int, s = ([argS 54 a, .val false [.sl true 54 (a.take i.toNat)], .val false [.i .i64 i]], []) ∧ 0 ≤ i ∧ i ≤ a.length ∧ n = a.length - i.toNat) ?_ ?_
  · exact ⟨rfl, a.length - 0, 0, rfl, by omega, by omega, rfl⟩
  rintro n s ⟨i, rfl, h1, h2, h3⟩
  repeat' first
    | (refine And.intro ?_ ?_)
    | (intro h; simp only [reduceCtorEq] at h; done)
    | (intro h; rw [h])
    | (intro h)
  all_goals first
    | (show lowEdges _ = true; kernel_rfl) | (show logOk _ _ = true; kernel_rfl) | exact True.intro | exact Or.inr rfl | exact Or.inl rfl
    | omega
    | exact of_decide_eq_true ‹_›
    | exact resSl (take_all h1 h2 ‹_›)
    | (have hi : i < (a.length : Int) := of_decide_eq_true ‹decide (i < (a.length : Int)) = true›
       have wr : WfRow T [.i .i64, .i .i64, .i .i64, .l 3, .i .i64, .i .i64, .i .i64, .i .i64, .i .i64, .s, .s, .i .i64, .s, .s, .i .i64, .i .i64, .l 94] (a.getD i.toNat []) := wa.row rfl (by omega)
       have hwr := wRow_le (a := a) (k := i.toNat) (by omega)
       first
         | exact ⟨_, wr, by omega, rfl⟩
         | exact ⟨_, wr, Nat.lt_of_lt_of_le (size_row (by omega)) (Nat.le_of_lt_succ hs), by omega, rfl⟩
         | exact ⟨_, wr.sub 4 8 (by decide), Nat.le_trans (wSub_le (by rw [wr.1]; decide)) (by omega), rfl⟩
         | exact ⟨_, Nat.le_trans (wRows_cell (a.getD i.toNat []) 3) (by omega), rfl⟩
         | exact ⟨_, Nat.le_trans (wRows_cell (a.getD i.toNat []) 16) (by omega), rfl⟩
         | (rw [take_len h1 h2]; show i.toNat + 1 ≤ maxLen; simp only [maxLen]; omega)
         | (rw [take_len h1 h2]; show (i.toNat + 1) * 200 ≤ _; omega)
         | (refine ⟨a.length - (i + 1).toNat, by omega, i + 1, ?_, by omega, by omega, rfl⟩
            exact snapT (fun r z => (([argS 54 a, .val false [.sl true 54 r], .val false [.i .i64 z]], []) : Snap)) (take_app h1 hi (csD_rowC wr)) (wrap_next h1 hi la)))
    | exact rfl
theorem ok12 : FOk Tryz.prog T 12 (cpG T [.i .i64, .l 54]) := by
  refine fok (env := envL [(15, (cpS 54))]) (N := 9) tabT (envL_cons ok15 envL_nil) mixed Tryz.func12 rfl Tryz.call12 Tryz.ntmps12 ?_
  rintro args ⟨a, wa, hw, rfl⟩ hwf
  refine ⟨by simp, ?_⟩
  clear hwf
  rw [Tryz.results12]
  repeat' first
    | (refine And.intro ?_ ?_)
    | (intro h; simp only [reduceCtorEq] at h; done)
    | (intro h; rw [h])
    | (intro h)
  all_goals first
    | (show lowEdges _ = true; kernel_rfl) | (show logOk _ _ = true; kernel_rfl) | exact True.intro | exact Or.inr rfl | exact Or.inl rfl
    | exact ⟨_, wCellR_le hw 1, rfl⟩
    | (have q := wCellR_le hw 1; show 0 + (a.getD 1 default).rows.length ≤ maxLen; simp only [maxLen]; omega)
    | (have q := wCellR_le hw 1; show (0 + (a.getD 1 default).rows.length) * 200 ≤ 140737488355328; omega)
    | rfl
    | skip
end Go.Proofs.YtaecbmjmcpdgdaaGreat.Ab
