/- Cells and notebooks, exactly: printed by a program of this claim. -/
import Derived.Test.YtodddilaniojgaaGreatCHn
import Derived.Test.YtodddilaniojgaaGreatCHs
namespace Go.Proofs.YtodddilaniojgaaGreat.Ab
open Go.RowKit
set_option linter.unusedVariables false
set_option linter.unusedSimpArgs false
set_option maxRecDepth 100000
set_option maxHeartbeats 2000000
theorem xk65 : FOk Tryz.prog T 65 (spOkC [.i .i64, .i .i64, .i .i64, .s, .s, .i .i64]) := by
  refine fok (env := envL [(54, spIn), (83, (spTB prOk)), (84, (spTB nameOk))]) (N := 57) tabT (envL_cons xk54 (envL_cons xk83 (envL_cons xk84 envL_nil))) mixed Tryz.func65 rfl Tryz.call65 Tryz.ntmps65 ?_
  rintro args ⟨a, rfl⟩ hwf
  refine ⟨by simp, ?_⟩
  clear hwf
  rw [Tryz.results65]
  repeat' first
    | (refine And.intro ?_ ?_)
    | (intro h; simp only [reduceCtorEq] at h; done)
    | (intro h; rw [h])
    | (intro h)
  all_goals first
    | (show lowEdges _ = true; kernel_rfl) | (show logOk _ _ = true; kernel_rfl) | exact True.intro | exact Or.inr rfl | exact Or.inl rfl
    | exact ⟨_, rfl⟩
    | exact ⟨_, _, _, rfl⟩
    | exact rfl
    | (refine resB (Eq.trans ?_ (okC6_eq (csD (rowC [.i .i64, .i .i64, .i .i64, .s, .s, .i .i64] a)))); show _ = okC6 (a.getD 0 default).int (a.getD 1 default).int (a.getD 2 default).int (a.getD 3 default).str (a.getD 4 default).str (a.getD 5 default).int; unfold okC6; simp only [Nat.reduceAdd] at *; simp_all only [Bool.not_eq_true', Bool.not_eq_false', Bool.not_true, Bool.not_false, Bool.or_true, Bool.true_or, Bool.or_false, Bool.false_or, Bool.and_true, Bool.true_and, Bool.and_false, Bool.false_and, Bool.not_not, if_true, if_false, Bool.false_eq_true]; done)
    | skip
theorem xk58 : FOk Tryz.prog T 58 (spOkC [.i .i64, .i .i64, .i .i64, .s, .s, .i .i64]) := by
  refine fok (env := envL [(32, spIn), (75, (spTB prOk)), (76, (spTB nameOk))]) (N := 57) tabT (envL_cons xk32 (envL_cons xk75 (envL_cons xk76 envL_nil))) mixed Tryz.func58 rfl Tryz.call58 Tryz.ntmps58 ?_
  rintro args ⟨a, rfl⟩ hwf
  refine ⟨by simp, ?_⟩
  clear hwf
  rw [Tryz.results58]
  repeat' first
    | (refine And.intro ?_ ?_)
    | (intro h; simp only [reduceCtorEq] at h; done)
    | (intro h; rw [h])
    | (intro h)
  all_goals first
    | (show lowEdges _ = true; kernel_rfl) | (show logOk _ _ = true; kernel_rfl) | exact True.intro | exact Or.inr rfl | exact Or.inl rfl
    | exact ⟨_, rfl⟩
    | exact ⟨_, _, _, rfl⟩
    | exact rfl
    | (refine resB (Eq.trans ?_ (okC6_eq (csD (rowC [.i .i64, .i .i64, .i .i64, .s, .s, .i .i64] a)))); show _ = okC6 (a.getD 0 default).int (a.getD 1 default).int (a.getD 2 default).int (a.getD 3 default).str (a.getD 4 default).str (a.getD 5 default).int; unfold okC6; simp only [Nat.reduceAdd] at *; simp_all only [Bool.not_eq_true', Bool.not_eq_false', Bool.not_true, Bool.not_false, Bool.or_true, Bool.true_or, Bool.or_false, Bool.false_or, Bool.and_true, Bool.true_and, Bool.and_false, Bool.false_and, Bool.not_not, if_true, if_false, Bool.false_eq_true]; done)
    | skip
theorem xk64 : FOk Tryz.prog T 64 (spIdx 72) := by
  refine fok (env := envL []) (N := 22) tabT envL_nil mixed Tryz.func64 rfl Tryz.call64 Tryz.ntmps64 ?_
  rintro args ⟨l, id, rfl⟩ hwf
  have hl : l.length ≤ maxLen := (show WfD T (.l 72) (.l l) from arg0 hwf (List.mem_singleton_self _)).len
  refine ⟨by simp, ?_⟩
  clear hwf
  rw [Tryz.results64]
  repeat' first
    | (refine And.intro ?_ ?_)
    | (intro h; simp only [reduceCtorEq] at h; done)
    | (intro h; rw [h])
    | (intro h)
  all_goals first
    | (show lowEdges _ = true; kernel_rfl) | (show logOk _ _ = true; kernel_rfl) | exact True.intro | exact Or.inr rfl | exact Or.inl rfl
    | skip
  refine awp_loop (Q := _) [1, 2, 5] [2] (fun n st => ∃ i : Nat, st = ([.val false [.i .i64 id], .ptr 2 1 0, .val false [.i .i64 (i : Int)]], [(1, [.val false [.sl false 72 l]])]) ∧ (∀ j, j < i → (!(iAt (rAt l j) 0 == id)) = true) ∧ i ≤ l.length ∧ n = l.length - i) ?_ ?_
  · exact ⟨rfl, l.length, 0, rfl, nolt _, Nat.zero_le _, rfl⟩
  rintro n st ⟨i, rfl, hI, hle, rfl⟩
  repeat' first
    | (refine And.intro ?_ ?_)
    | (intro h; simp only [reduceCtorEq] at h; done)
    | (intro h; rw [h])
    | (intro h)
  all_goals first
    | (show lowEdges _ = true; kernel_rfl) | (show logOk _ _ = true; kernel_rfl) | exact True.intro | exact Or.inr rfl | exact Or.inl rfl
    | with_reducible exact Int.natCast_nonneg _
    | (have hi : i < l.length := ltN (by with_reducible assumption)
       first
         | with_reducible exact of_decide_eq_true (by with_reducible assumption)
         | (show (Int.toNat (i : Int)) < _; rw [Int.toNat_natCast]; exact hi)
         | (show (i : Int) < _; omega)
           | exact resIh (P := fun j => iAt (rAt l j) 0 == id) hi (by with_reducible assumption) hI
           | exact resIn (P := fun j => iAt (rAt l j) 0 == id) hI hi
           | (refine ⟨l.length - (i + 1), by omega, i + 1, ?_, all_succ hI (P := fun j => (!(iAt (rAt l j) 0 == id))) ?_, by omega, rfl⟩
              · exact congrArg (fun z : Int => (([.val false [.i .i64 id], .ptr 2 1 0, .val false [.i .i64 z]], [(1, [.val false [.sl false 72 l]])]) : Snap)) (wrapN hi hl)
              · exact notF (by with_reducible assumption)))
    | (have hi : ¬ i < l.length := nltN (by with_reducible assumption)
       first
           | exact resIh (P := fun j => iAt (rAt l j) 0 == id) hi (by with_reducible assumption) hI
           | exact resIn (P := fun j => iAt (rAt l j) 0 == id) hI hi
           | (refine ⟨l.length - (i + 1), by omega, i + 1, ?_, all_succ hI (P := fun j => (!(iAt (rAt l j) 0 == id))) ?_, by omega, rfl⟩
              · exact congrArg (fun z : Int => (([.val false [.i .i64 id], .ptr 2 1 0, .val false [.i .i64 z]], [(1, [.val false [.sl false 72 l]])]) : Snap)) (wrapN hi hl)
              · exact notF (by with_reducible assumption)))
    | (show Alive _ _; exact rfl)
    | exact absurd (show (!false) = false by with_reducible assumption) (by decide)
    | exact absurd (show (!true) = true by with_reducible assumption) (by decide)
    | skip
theorem xk59 : FOk Tryz.prog T 59 (spIdx 72) := by
  refine fok (env := envL []) (N := 21) tabT envL_nil mixed Tryz.func59 rfl Tryz.call59 Tryz.ntmps59 ?_
  rintro args ⟨l, id, rfl⟩ hwf
  have hl : l.length ≤ maxLen := (show WfD T (.l 72) (.l l) from arg0 hwf (List.mem_singleton_self _)).len
  refine ⟨by simp, ?_⟩
  clear hwf
  rw [Tryz.results59]
  repeat' first
    | (refine And.intro ?_ ?_)
    | (intro h; simp only [reduceCtorEq] at h; done)
    | (intro h; rw [h])
    | (intro h)
  all_goals first
    | (show lowEdges _ = true; kernel_rfl) | (show logOk _ _ = true; kernel_rfl) | exact True.intro | exact Or.inr rfl | exact Or.inl rfl
    | skip
  refine awp_loop (Q := _) [1, 2, 8, 9, 10] [2] (fun n st => ∃ i : Nat, st = ([.val false [.i .i64 id], .ptr 2 1 0, .val false [.sl false 72 l], .val false [.i .i64 l.length], .val false [.i .i64 (i : Int)]], [(1, [.val false [.sl false 72 l]])]) ∧ (∀ j, j < i → (!(iAt (rAt l j) 0 == id)) = true) ∧ i ≤ l.length ∧ n = l.length - i) ?_ ?_
  · exact ⟨rfl, l.length, 0, rfl, nolt _, Nat.zero_le _, rfl⟩
  rintro n st ⟨i, rfl, hI, hle, rfl⟩
  repeat' first
    | (refine And.intro ?_ ?_)
    | (intro h; simp only [reduceCtorEq] at h; done)
    | (intro h; rw [h])
    | (intro h)
  all_goals first
    | (show lowEdges _ = true; kernel_rfl) | (show logOk _ _ = true; kernel_rfl) | exact True.intro | exact Or.inr rfl | exact Or.inl rfl
    | with_reducible exact Int.natCast_nonneg _
    | (have hi : i < l.length := ltN (by with_reducible assumption)
       first
         | with_reducible exact of_decide_eq_true (by with_reducible assumption)
         | (show (Int.toNat (i : Int)) < _; rw [Int.toNat_natCast]; exact hi)
         | (show (i : Int) < _; omega)
           | exact resIh (P := fun j => iAt (rAt l j) 0 == id) hi (by with_reducible assumption) hI
           | exact resIn (P := fun j => iAt (rAt l j) 0 == id) hI hi
           | (refine ⟨l.length - (i + 1), by omega, i + 1, ?_, all_succ hI (P := fun j => (!(iAt (rAt l j) 0 == id))) ?_, by omega, rfl⟩
              · exact congrArg (fun z : Int => (([.val false [.i .i64 id], .ptr 2 1 0, .val false [.sl false 72 l], .val false [.i .i64 l.length], .val false [.i .i64 z]], [(1, [.val false [.sl false 72 l]])]) : Snap)) (wrapN hi hl)
              · exact notF (by with_reducible assumption)))
    | (have hi : ¬ i < l.length := nltN (by with_reducible assumption)
       first
           | exact resIh (P := fun j => iAt (rAt l j) 0 == id) hi (by with_reducible assumption) hI
           | exact resIn (P := fun j => iAt (rAt l j) 0 == id) hI hi
           | (refine ⟨l.length - (i + 1), by omega, i + 1, ?_, all_succ hI (P := fun j => (!(iAt (rAt l j) 0 == id))) ?_, by omega, rfl⟩
              · exact congrArg (fun z : Int => (([.val false [.i .i64 id], .ptr 2 1 0, .val false [.sl false 72 l], .val false [.i .i64 l.length], .val false [.i .i64 z]], [(1, [.val false [.sl false 72 l]])]) : Snap)) (wrapN hi hl)
              · exact notF (by with_reducible assumption)))
    | (show Alive _ _; exact rfl)
    | exact absurd (show (!false) = false by with_reducible assumption) (by decide)
    | exact absurd (show (!true) = true by with_reducible assumption) (by decide)
    | skip
theorem xk55 : FOk Tryz.prog T 55 (spOkN 72) := by
  refine fok (env := envL [(65, (spOkC [.i .i64, .i .i64, .i .i64, .s, .s, .i .i64])), (64, (spIdx 72))]) (N := 34) tabT (envL_cons xk65 (envL_cons xk64 envL_nil)) mixed Tryz.func55 rfl Tryz.call55 Tryz.ntmps55 ?_
  rintro args ⟨l, rfl⟩ hwf
  have hl : l.length ≤ maxLen := (show WfD T (.l 72) (.l l) from arg0 hwf (List.mem_singleton_self _)).len
  refine ⟨by simp, ?_⟩
  clear hwf
  rw [Tryz.results55]
  repeat' first
    | (refine And.intro ?_ ?_)
    | (intro h; simp only [reduceCtorEq] at h; done)
    | (intro h; rw [h])
    | (intro h)
  all_goals first
    | (show lowEdges _ = true; kernel_rfl) | (show logOk _ _ = true; kernel_rfl) | exact True.intro | exact Or.inr rfl | exact Or.inl rfl
    | skip
  refine awp_loop (Q := _) [1, 3] [1] (fun n st => ∃ i : Nat, st = ([.ptr 1 1 0, .val false [.i .i64 (i : Int)]], [(1, [.val false [.sl false 72 l]])]) ∧ (∀ j, j < i → (okCell (rAt l j) && (idxC l (iAt (rAt l j) 0) == (j : Int))) = true) ∧ i ≤ l.length ∧ n = l.length - i) ?_ ?_
  · exact ⟨rfl, l.length, 0, rfl, nolt _, Nat.zero_le _, rfl⟩
  rintro n st ⟨i, rfl, hI, hle, rfl⟩
  repeat' first
    | (refine And.intro ?_ ?_)
    | (intro h; simp only [reduceCtorEq] at h; done)
    | (intro h; rw [h])
    | (intro h)
  all_goals first
    | (show lowEdges _ = true; kernel_rfl) | (show logOk _ _ = true; kernel_rfl) | exact True.intro | exact Or.inr rfl | exact Or.inl rfl
    | with_reducible exact Int.natCast_nonneg _
    | (have hi : i < l.length := ltN (by with_reducible assumption)
       first
         | with_reducible exact of_decide_eq_true (by with_reducible assumption)
         | (show (Int.toNat (i : Int)) < _; rw [Int.toNat_natCast]; exact hi)
         | (show (i : Int) < _; omega)
           | exact ⟨rAt l i, rfl⟩
           | exact ⟨_, _, rfl⟩
           | (unfold okNb; refine resBs (i := i) (P := fun j => (okCell (rAt l j) && (idxC l (iAt (rAt l j) 0) == (j : Int)))) hi ?_; show (okCell (rAt l i) && (idxC l (iAt (rAt l i) 0) == (i : Int))) = false; first | exact nbNo1 (by assumption) | exact nbNo2 (by assumption))
           | (unfold okNb; exact resBe (P := fun j => (okCell (rAt l j) && (idxC l (iAt (rAt l j) 0) == (j : Int)))) hI hi rfl)
           | (refine ⟨l.length - (i + 1), by omega, i + 1, ?_, all_succ hI (P := fun j => (okCell (rAt l j) && (idxC l (iAt (rAt l j) 0) == (j : Int)))) ?_, by omega, rfl⟩
              · exact congrArg (fun z : Int => (([.ptr 1 1 0, .val false [.i .i64 z]], [(1, [.val false [.sl false 72 l]])]) : Snap)) (wrapN hi hl)
              · exact nbYes (by assumption) (by assumption)))
    | (have hi : ¬ i < l.length := nltN (by with_reducible assumption)
       first
           | exact ⟨rAt l i, rfl⟩
           | exact ⟨_, _, rfl⟩
           | (unfold okNb; refine resBs (i := i) (P := fun j => (okCell (rAt l j) && (idxC l (iAt (rAt l j) 0) == (j : Int)))) hi ?_; show (okCell (rAt l i) && (idxC l (iAt (rAt l i) 0) == (i : Int))) = false; first | exact nbNo1 (by assumption) | exact nbNo2 (by assumption))
           | (unfold okNb; exact resBe (P := fun j => (okCell (rAt l j) && (idxC l (iAt (rAt l j) 0) == (j : Int)))) hI hi rfl)
           | (refine ⟨l.length - (i + 1), by omega, i + 1, ?_, all_succ hI (P := fun j => (okCell (rAt l j) && (idxC l (iAt (rAt l j) 0) == (j : Int)))) ?_, by omega, rfl⟩
              · exact congrArg (fun z : Int => (([.ptr 1 1 0, .val false [.i .i64 z]], [(1, [.val false [.sl false 72 l]])]) : Snap)) (wrapN hi hl)
              · exact nbYes (by assumption) (by assumption)))
    | (show Alive _ _; exact rfl)
    | exact absurd (show (!false) = false by with_reducible assumption) (by decide)
    | exact absurd (show (!true) = true by with_reducible assumption) (by decide)
    | skip
theorem xk33 : FOk Tryz.prog T 33 (spOkN 72) := by
  refine fok (env := envL [(58, (spOkC [.i .i64, .i .i64, .i .i64, .s, .s, .i .i64])), (59, (spIdx 72))]) (N := 29) tabT (envL_cons xk58 (envL_cons xk59 envL_nil)) mixed Tryz.func33 rfl Tryz.call33 Tryz.ntmps33 ?_
  rintro args ⟨l, rfl⟩ hwf
  have hl : l.length ≤ maxLen := (show WfD T (.l 72) (.l l) from arg0 hwf (List.mem_singleton_self _)).len
  refine ⟨by simp, ?_⟩
  clear hwf
  rw [Tryz.results33]
  repeat' first
    | (refine And.intro ?_ ?_)
    | (intro h; simp only [reduceCtorEq] at h; done)
    | (intro h; rw [h])
    | (intro h)
  all_goals first
    | (show lowEdges _ = true; kernel_rfl) | (show logOk _ _ = true; kernel_rfl) | exact True.intro | exact Or.inr rfl | exact Or.inl rfl
    | skip
  refine awp_loop (Q := _) [1, 6, 7, 8] [1] (fun n st => ∃ i : Nat, st = ([.ptr 1 1 0, .val false [.sl false 72 l], .val false [.i .i64 l.length], .val false [.i .i64 (i : Int)]], [(1, [.val false [.sl false 72 l]])]) ∧ (∀ j, j < i → (okCell (rAt l j) && (idxC l (iAt (rAt l j) 0) == (j : Int))) = true) ∧ i ≤ l.length ∧ n = l.length - i) ?_ ?_
  · exact ⟨rfl, l.length, 0, rfl, nolt _, Nat.zero_le _, rfl⟩
  rintro n st ⟨i, rfl, hI, hle, rfl⟩
  repeat' first
    | (refine And.intro ?_ ?_)
    | (intro h; simp only [reduceCtorEq] at h; done)
    | (intro h; rw [h])
    | (intro h)
  all_goals first
    | (show lowEdges _ = true; kernel_rfl) | (show logOk _ _ = true; kernel_rfl) | exact True.intro | exact Or.inr rfl | exact Or.inl rfl
    | with_reducible exact Int.natCast_nonneg _
    | (have hi : i < l.length := ltN (by with_reducible assumption)
       first
         | with_reducible exact of_decide_eq_true (by with_reducible assumption)
         | (show (Int.toNat (i : Int)) < _; rw [Int.toNat_natCast]; exact hi)
         | (show (i : Int) < _; omega)
           | exact ⟨rAt l i, rfl⟩
           | exact ⟨_, _, rfl⟩
           | (unfold okNb; refine resBs (i := i) (P := fun j => (okCell (rAt l j) && (idxC l (iAt (rAt l j) 0) == (j : Int)))) hi ?_; show (okCell (rAt l i) && (idxC l (iAt (rAt l i) 0) == (i : Int))) = false; first | exact nbNo1 (by assumption) | exact nbNo2 (by assumption))
           | (unfold okNb; exact resBe (P := fun j => (okCell (rAt l j) && (idxC l (iAt (rAt l j) 0) == (j : Int)))) hI hi rfl)
           | (refine ⟨l.length - (i + 1), by omega, i + 1, ?_, all_succ hI (P := fun j => (okCell (rAt l j) && (idxC l (iAt (rAt l j) 0) == (j : Int)))) ?_, by omega, rfl⟩
              · exact congrArg (fun z : Int => (([.ptr 1 1 0, .val false [.sl false 72 l], .val false [.i .i64 l.length], .val false [.i .i64 z]], [(1, [.val false [.sl false 72 l]])]) : Snap)) (wrapN hi hl)
              · exact nbYes (by assumption) (by assumption)))
    | (have hi : ¬ i < l.length := nltN (by with_reducible assumption)
       first
           | exact ⟨rAt l i, rfl⟩
           | exact ⟨_, _, rfl⟩
           | (unfold okNb; refine resBs (i := i) (P := fun j => (okCell (rAt l j) && (idxC l (iAt (rAt l j) 0) == (j : Int)))) hi ?_; show (okCell (rAt l i) && (idxC l (iAt (rAt l i) 0) == (i : Int))) = false; first | exact nbNo1 (by assumption) | exact nbNo2 (by assumption))
           | (unfold okNb; exact resBe (P := fun j => (okCell (rAt l j) && (idxC l (iAt (rAt l j) 0) == (j : Int)))) hI hi rfl)
           | (refine ⟨l.length - (i + 1), by omega, i + 1, ?_, all_succ hI (P := fun j => (okCell (rAt l j) && (idxC l (iAt (rAt l j) 0) == (j : Int)))) ?_, by omega, rfl⟩
              · exact congrArg (fun z : Int => (([.ptr 1 1 0, .val false [.sl false 72 l], .val false [.i .i64 l.length], .val false [.i .i64 z]], [(1, [.val false [.sl false 72 l]])]) : Snap)) (wrapN hi hl)
              · exact nbYes (by assumption) (by assumption)))
    | (show Alive _ _; exact rfl)
    | exact absurd (show (!false) = false by with_reducible assumption) (by decide)
    | exact absurd (show (!true) = true by with_reducible assumption) (by decide)
    | skip
theorem xk34 : FOk Tryz.prog T 34 (spCpN 72) := by
  refine fok (env := envL []) (N := 8) tabT envL_nil mixed Tryz.func34 rfl Tryz.call34 Tryz.ntmps34 ?_
  rintro args ⟨l, hl, rfl⟩ hwf
  refine ⟨by simp, ?_⟩
  clear hwf
  rw [Tryz.results34]
  repeat' first
    | (refine And.intro ?_ ?_)
    | (intro h; simp only [reduceCtorEq] at h; done)
    | (intro h; rw [h])
    | (intro h)
  all_goals first
    | (show lowEdges _ = true; kernel_rfl) | (show logOk _ _ = true; kernel_rfl) | exact True.intro | exact Or.inr rfl | exact Or.inl rfl
    | exact rfl
    | (show 0 + l.length ≤ maxLen; simp only [maxLen]; omega)
    | (show (0 + l.length) * 64 ≤ 140737488355328; omega)
    | skip
theorem xk49 : FOk Tryz.prog T 49 (spCpN 72) := by
  refine fok (env := envL []) (N := 8) tabT envL_nil mixed Tryz.func49 rfl Tryz.call49 Tryz.ntmps49 ?_
  rintro args ⟨l, hl, rfl⟩ hwf
  refine ⟨by simp, ?_⟩
  clear hwf
  rw [Tryz.results49]
  repeat' first
    | (refine And.intro ?_ ?_)
    | (intro h; simp only [reduceCtorEq] at h; done)
    | (intro h; rw [h])
    | (intro h)
  all_goals first
    | (show lowEdges _ = true; kernel_rfl) | (show logOk _ _ = true; kernel_rfl) | exact True.intro | exact Or.inr rfl | exact Or.inl rfl
    | exact rfl
    | (show 0 + l.length ≤ maxLen; simp only [maxLen]; omega)
    | (show (0 + l.length) * 64 ≤ 140737488355328; omega)
    | skip
theorem xk35 : FOk Tryz.prog T 35 (spEqN 72) := by
  refine fok (env := envL []) (N := 31) tabT envL_nil mixed Tryz.func35 rfl Tryz.call35 Tryz.ntmps35 ?_
  rintro args ⟨l, m, rfl⟩ hwf
  have hl : l.length ≤ maxLen := (show WfD T (.l 72) (.l l) from arg0 hwf (List.mem_singleton_self _)).len
  refine ⟨by simp, ?_⟩
  clear hwf
  rw [Tryz.results35]
  repeat' first
    | (refine And.intro ?_ ?_)
    | (intro h; simp only [reduceCtorEq] at h; done)
    | (intro h; rw [h])
    | (intro h)
  all_goals first
    | (show lowEdges _ = true; kernel_rfl) | (show logOk _ _ = true; kernel_rfl) | exact True.intro | exact Or.inr rfl | exact Or.inl rfl
    | exact resB (eqNb_no (by assumption))
    | skip
  refine awp_loop (Q := _) [2, 3, 5] [2, 3] (fun n st => ∃ i : Nat, st = ([.ptr 2 1 0, .ptr 3 1 0, .val false [.i .i64 (i : Int)]], [(1, [.val false [.sl false 72 l]]), (1, [.val false [.sl false 72 m]])]) ∧ (∀ j, j < i → eqC (rAt l j) (rAt m j) = true) ∧ i ≤ l.length ∧ n = l.length - i) ?_ ?_
  · exact ⟨rfl, l.length, 0, rfl, nolt _, Nat.zero_le _, rfl⟩
  rintro n st ⟨i, rfl, hI, hle, rfl⟩
  repeat' first
    | (refine And.intro ?_ ?_)
    | (intro h; simp only [reduceCtorEq] at h; done)
    | (intro h; rw [h])
    | (intro h)
  all_goals first
    | (show lowEdges _ = true; kernel_rfl) | (show logOk _ _ = true; kernel_rfl) | exact True.intro | exact Or.inr rfl | exact Or.inl rfl
    | with_reducible exact Int.natCast_nonneg _
    | (have hi : i < l.length := ltN (by with_reducible assumption)
       first
         | with_reducible exact of_decide_eq_true (by with_reducible assumption)
         | (show (Int.toNat (i : Int)) < _; rw [Int.toNat_natCast]; exact hi)
         | (show (i : Int) < _; omega)
           | (show (i : Int) < _; exact eqNb_lt (by assumption) hi)
           | (show (Int.toNat (i : Int)) < _; rw [Int.toNat_natCast]; exact Int.ofNat_lt.1 (eqNb_lt (by assumption) hi))
           | exact resB (eqNb_at hi (by assumption))
           | exact resB (eqNb_yes (by assumption) hI hi)
           | (refine ⟨l.length - (i + 1), by omega, i + 1, ?_, all_succ hI (P := fun j => eqC (rAt l j) (rAt m j)) ?_, by omega, rfl⟩
              · exact congrArg (fun z : Int => (([.ptr 2 1 0, .ptr 3 1 0, .val false [.i .i64 z]], [(1, [.val false [.sl false 72 l]]), (1, [.val false [.sl false 72 m]])]) : Snap)) (wrapN hi hl)
              · exact of_notF (by assumption)))
    | (have hi : ¬ i < l.length := nltN (by with_reducible assumption)
       first
           | (show (i : Int) < _; exact eqNb_lt (by assumption) hi)
           | (show (Int.toNat (i : Int)) < _; rw [Int.toNat_natCast]; exact Int.ofNat_lt.1 (eqNb_lt (by assumption) hi))
           | exact resB (eqNb_at hi (by assumption))
           | exact resB (eqNb_yes (by assumption) hI hi)
           | (refine ⟨l.length - (i + 1), by omega, i + 1, ?_, all_succ hI (P := fun j => eqC (rAt l j) (rAt m j)) ?_, by omega, rfl⟩
              · exact congrArg (fun z : Int => (([.ptr 2 1 0, .ptr 3 1 0, .val false [.i .i64 z]], [(1, [.val false [.sl false 72 l]]), (1, [.val false [.sl false 72 m]])]) : Snap)) (wrapN hi hl)
              · exact of_notF (by assumption)))
    | (show Alive _ _; exact rfl)
    | exact absurd (show (!false) = false by with_reducible assumption) (by decide)
    | exact absurd (show (!true) = true by with_reducible assumption) (by decide)
    | skip
theorem xk13 : FOk Tryz.prog T 13 (spEqC 72) := by
  refine fok (env := envL [(34, (spCpN 72)), (35, (spEqN 72))]) (N := 40) tabT (envL_cons xk34 (envL_cons xk35 envL_nil)) mixed Tryz.func13 rfl Tryz.call13 Tryz.ntmps13 ?_
  rintro args ⟨l, m, hl, hm, rfl⟩ hwf
  refine ⟨by simp, ?_⟩
  clear hwf
  rw [Tryz.results13]
  repeat' first
    | (refine And.intro ?_ ?_)
    | (intro h; simp only [reduceCtorEq] at h; done)
    | (intro h; rw [h])
    | (intro h)
  all_goals first
    | (show lowEdges _ = true; kernel_rfl) | (show logOk _ _ = true; kernel_rfl) | exact True.intro | exact Or.inr rfl | exact Or.inl rfl
    | exact ⟨_, hl, rfl⟩
    | exact ⟨_, hm, rfl⟩
    | skip
  refine awp_loop (Q := _) [5, 6, 7] [5, 6] (fun n st => ∃ i : Nat, st = ([.ptr 5 1 0, .ptr 6 1 0, .val false [.i .i64 (i : Int)]], [(1, [.val false [.sl true 72 (stripN (Int.toNat (i : Int)) l)]]), (1, [.val false [.sl true 72 (m)]])]) ∧ i ≤ l.length ∧ n = l.length - i) ?_ ?_
  · exact ⟨rfl, l.length, 0, rfl, Nat.zero_le _, rfl⟩
  rintro n st ⟨i, rfl, hle, rfl⟩
  repeat' first
    | (refine And.intro ?_ ?_)
    | (intro h; simp only [reduceCtorEq] at h; done)
    | (intro h; rw [h])
    | (intro h)
  all_goals first
    | (show lowEdges _ = true; kernel_rfl) | (show logOk _ _ = true; kernel_rfl) | exact True.intro | exact Or.inr rfl | exact Or.inl rfl
    | with_reducible exact Int.natCast_nonneg _
    | (have hi : i < l.length := ltS (by with_reducible assumption)
       first
         | with_reducible exact of_decide_eq_true (by with_reducible assumption)
         | (rw [Int.toNat_natCast, stripN_len]; exact hi)
         | (refine ⟨l.length - (i + 1), by omega, i + 1, ?_, by omega, rfl⟩
            refine (congrArg (fun z : Int => (([.ptr 5 1 0, .ptr 6 1 0, .val false [.i .i64 z]], [(1, [.val false [.sl true 72 (pokeRow (stripN i l) i 1 [.i 0])]]), (1, [.val false [.sl true 72 (m)]])]) : Snap)) (wrapN hi (Nat.le_trans hl (by decide)))).trans ?_
            exact congrArg (fun z : List (List D) => (([.ptr 5 1 0, .ptr 6 1 0, .val false [.i .i64 ((i + 1 : Nat) : Int)]], [(1, [.val false [.sl true 72 (z)]]), (1, [.val false [.sl true 72 (m)]])]) : Snap)) (stripN_next hi)))
    | (show Alive _ _; exact rfl)
    | skip
  refine awp_loop (Q := _) [5, 6, 8] [5, 6] (fun n st => ∃ i : Nat, st = ([.ptr 5 1 0, .ptr 6 1 0, .val false [.i .i64 (i : Int)]], [(1, [.val false [.sl true 72 (strip l)]]), (1, [.val false [.sl true 72 (stripN (Int.toNat (i : Int)) m)]])]) ∧ i ≤ m.length ∧ n = m.length - i) ?_ ?_
  · exact ⟨rfl, m.length, 0, congrArg (fun z : List (List D) => (([.ptr 5 1 0, .ptr 6 1 0, .val false [.i .i64 ((0 : Nat) : Int)]], [(1, [.val false [.sl true 72 (z)]]), (1, [.val false [.sl true 72 (stripN (Int.toNat ((0 : Nat) : Int)) m)]])]) : Snap)) (stripN_all (k := Int.toNat (i : Int)) (by rw [Int.toNat_natCast]; exact Nat.le_of_not_lt (nltS (by with_reducible assumption)))), Nat.zero_le _, rfl⟩
  rintro n st ⟨i, rfl, hle, rfl⟩
  repeat' first
    | (refine And.intro ?_ ?_)
    | (intro h; simp only [reduceCtorEq] at h; done)
    | (intro h; rw [h])
    | (intro h)
  all_goals first
    | (show lowEdges _ = true; kernel_rfl) | (show logOk _ _ = true; kernel_rfl) | exact True.intro | exact Or.inr rfl | exact Or.inl rfl
    | with_reducible exact Int.natCast_nonneg _
    | (have hi : i < m.length := ltS (by with_reducible assumption)
       first
         | with_reducible exact of_decide_eq_true (by with_reducible assumption)
         | (rw [Int.toNat_natCast, stripN_len]; exact hi)
         | (refine ⟨m.length - (i + 1), by omega, i + 1, ?_, by omega, rfl⟩
            refine (congrArg (fun z : Int => (([.ptr 5 1 0, .ptr 6 1 0, .val false [.i .i64 z]], [(1, [.val false [.sl true 72 (strip l)]]), (1, [.val false [.sl true 72 (pokeRow (stripN i m) i 1 [.i 0])]])]) : Snap)) (wrapN hi (Nat.le_trans hm (by decide)))).trans ?_
            exact congrArg (fun z : List (List D) => (([.ptr 5 1 0, .ptr 6 1 0, .val false [.i .i64 ((i + 1 : Nat) : Int)]], [(1, [.val false [.sl true 72 (strip l)]]), (1, [.val false [.sl true 72 (z)]])]) : Snap)) (stripN_next hi)))
    | (show Alive _ _; exact rfl)
    | exact ⟨_, _, rfl⟩
    | (rw [stripN_all (k := Int.toNat (i : Int)) (by rw [Int.toNat_natCast]; exact Nat.le_of_not_lt (nltS (l := m) (by assumption)))])
    | skip
end Go.Proofs.YtodddilaniojgaaGreat.Ab
