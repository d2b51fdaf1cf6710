/- Names and texts, exactly: printed by a program of this claim. -/
import Derived.Test.YtodddilaniojgaaGreatCYs
import Derived.Test.YtodddilaniojgaaGreatCHa
namespace Go.Proofs.YtodddilaniojgaaGreat.Ab
open Go.RowKit
set_option linter.unusedVariables false
set_option linter.unusedSimpArgs false
set_option maxRecDepth 100000
set_option maxHeartbeats 2000000
theorem xk54 : FOk Tryz.prog T 54 spIn := by
  refine fok (env := envL []) (N := 15) tabT envL_nil mixed Tryz.func54 rfl Tryz.call54 Tryz.ntmps54 ?_
  rintro args ⟨x, lo, hi, rfl⟩ hwf
  refine ⟨by simp, ?_⟩
  clear hwf
  rw [Tryz.results54]
  repeat' first
    | (refine And.intro ?_ ?_)
    | (intro h; simp only [reduceCtorEq] at h; done)
    | (intro h; rw [h])
    | (intro h)
  all_goals first
    | (show lowEdges _ = true; kernel_rfl) | (show logOk _ _ = true; kernel_rfl) | exact True.intro | exact Or.inr rfl | exact Or.inl rfl
    | exact rfl
    | (refine resB ?_; unfold inR; simp_all only [ge_iff_le, Bool.not_eq_true', Bool.not_eq_false', Bool.not_true, Bool.not_false, Bool.or_true, Bool.true_or, Bool.or_false, Bool.false_or, Bool.and_true, Bool.true_and, Bool.and_false, Bool.false_and, Bool.not_not]; done)
    | skip
theorem xk32 : FOk Tryz.prog T 32 spIn := by
  refine fok (env := envL []) (N := 15) tabT envL_nil mixed Tryz.func32 rfl Tryz.call32 Tryz.ntmps32 ?_
  rintro args ⟨x, lo, hi, rfl⟩ hwf
  refine ⟨by simp, ?_⟩
  clear hwf
  rw [Tryz.results32]
  repeat' first
    | (refine And.intro ?_ ?_)
    | (intro h; simp only [reduceCtorEq] at h; done)
    | (intro h; rw [h])
    | (intro h)
  all_goals first
    | (show lowEdges _ = true; kernel_rfl) | (show logOk _ _ = true; kernel_rfl) | exact True.intro | exact Or.inr rfl | exact Or.inl rfl
    | exact rfl
    | (refine resB ?_; unfold inR; simp_all only [ge_iff_le, Bool.not_eq_true', Bool.not_eq_false', Bool.not_true, Bool.not_false, Bool.or_true, Bool.true_or, Bool.or_false, Bool.false_or, Bool.and_true, Bool.true_and, Bool.and_false, Bool.false_and, Bool.not_not]; done)
    | skip
theorem xk122 : FOk Tryz.prog T 122 (spTB okTxt) := by
  refine fok (env := envL []) (N := 29) tabT envL_nil mixed Tryz.func122 rfl Tryz.call122 Tryz.ntmps122 ?_
  rintro args ⟨s, rfl⟩ hwf
  have hl : s.size ≤ maxLen := arg0 hwf (List.mem_singleton_self _)
  refine ⟨by simp, ?_⟩
  clear hwf
  rw [Tryz.results122]
  repeat' first
    | (refine And.intro ?_ ?_)
    | (intro h; simp only [reduceCtorEq] at h; done)
    | (intro h; rw [h])
    | (intro h)
  all_goals first
    | (show lowEdges _ = true; kernel_rfl) | (show logOk _ _ = true; kernel_rfl) | exact True.intro | exact Or.inr rfl | exact Or.inl rfl
    | skip
  refine awp_loop (Q := _) [0, 3] [] (fun n st => ∃ i : Nat, st = ([sArg s, .val false [.i .i64 (i : Int)]], []) ∧ (∀ j, j < i → txtByte (bAt s j) = true) ∧ i ≤ s.size ∧ n = s.size - i) ?_ ?_
  · exact ⟨rfl, s.size, 0, rfl, nolt _, Nat.zero_le _, rfl⟩
  rintro n st ⟨i, rfl, hI, hle, rfl⟩
  repeat' first
    | (refine And.intro ?_ ?_)
    | (intro h; simp only [reduceCtorEq] at h; done)
    | (intro h; rw [h])
    | (intro h)
  all_goals first
    | (show lowEdges _ = true; kernel_rfl) | (show logOk _ _ = true; kernel_rfl) | exact True.intro | exact Or.inr rfl | exact Or.inl rfl
    | with_reducible exact Int.natCast_nonneg _
    | (have hi : i < s.size := ltN (by with_reducible assumption)
       first
         | with_reducible exact of_decide_eq_true (by with_reducible assumption)
         | (show (Int.toNat (i : Int)) < _; rw [Int.toNat_natCast]; exact hi)
         | (show (i : Int) < _; omega)
           | exact ⟨_, _, _, rfl⟩
           | (unfold okTxt; refine resBs (i := i) (P := fun j => txtByte (bAt s j)) hi ?_; first | (show _ = _; simp_all only [txtByte, Bool.not_eq_true', Bool.not_eq_false', Bool.not_true, Bool.not_false, Bool.or_true, Bool.true_or, Bool.or_false, Bool.false_or, Bool.and_true, Bool.true_and, Bool.and_false, Bool.false_and, Bool.not_not]; done) | skip; done)
           | (unfold okTxt; exact resBe (P := fun j => txtByte (bAt s j)) hI hi rfl)
           | (refine ⟨s.size - (i + 1), by omega, i + 1, ?_, all_succ hI (P := fun j => txtByte (bAt s j)) ?_, by omega, rfl⟩
              · exact congrArg (fun z : Int => (([sArg s, .val false [.i .i64 z]], []) : Snap)) (wrapN hi hl)
              · first | (show _ = _; simp_all only [txtByte, Bool.not_eq_true', Bool.not_eq_false', Bool.not_true, Bool.not_false, Bool.or_true, Bool.true_or, Bool.or_false, Bool.false_or, Bool.and_true, Bool.true_and, Bool.and_false, Bool.false_and, Bool.not_not]; done) | skip; done))
    | (have hi : ¬ i < s.size := nltN (by with_reducible assumption)
       first
           | exact ⟨_, _, _, rfl⟩
           | (unfold okTxt; refine resBs (i := i) (P := fun j => txtByte (bAt s j)) hi ?_; first | (show _ = _; simp_all only [txtByte, Bool.not_eq_true', Bool.not_eq_false', Bool.not_true, Bool.not_false, Bool.or_true, Bool.true_or, Bool.or_false, Bool.false_or, Bool.and_true, Bool.true_and, Bool.and_false, Bool.false_and, Bool.not_not]; done) | skip; done)
           | (unfold okTxt; exact resBe (P := fun j => txtByte (bAt s j)) hI hi rfl)
           | (refine ⟨s.size - (i + 1), by omega, i + 1, ?_, all_succ hI (P := fun j => txtByte (bAt s j)) ?_, by omega, rfl⟩
              · exact congrArg (fun z : Int => (([sArg s, .val false [.i .i64 z]], []) : Snap)) (wrapN hi hl)
              · first | (show _ = _; simp_all only [txtByte, Bool.not_eq_true', Bool.not_eq_false', Bool.not_true, Bool.not_false, Bool.or_true, Bool.true_or, Bool.or_false, Bool.false_or, Bool.and_true, Bool.true_and, Bool.and_false, Bool.false_and, Bool.not_not]; done) | skip; done))
    | (show Alive _ _; exact rfl)
    | exact absurd (show (!false) = false by with_reducible assumption) (by decide)
    | exact absurd (show (!true) = true by with_reducible assumption) (by decide)
    | skip
theorem xk95 : FOk Tryz.prog T 95 (spTB nameSh) := by
  refine fok (env := envL []) (N := 45) tabT envL_nil mixed Tryz.func95 rfl Tryz.call95 Tryz.ntmps95 ?_
  rintro args ⟨s, rfl⟩ hwf
  have hl : s.size ≤ maxLen := arg0 hwf (List.mem_singleton_self _)
  refine ⟨by simp, ?_⟩
  clear hwf
  rw [Tryz.results95]
  repeat' first
    | (refine And.intro ?_ ?_)
    | (intro h; simp only [reduceCtorEq] at h; done)
    | (intro h; rw [h])
    | (intro h)
  all_goals first
    | (show lowEdges _ = true; kernel_rfl) | (show logOk _ _ = true; kernel_rfl) | exact True.intro | exact Or.inr rfl | exact Or.inl rfl
    | skip
  refine awp_loop (Q := _) [0, 3] [] (fun n st => ∃ i : Nat, st = ([sArg s, .val false [.i .i64 (i : Int)]], []) ∧ (∀ j, j < i → wordB s j = true) ∧ i ≤ s.size ∧ n = s.size - i) ?_ ?_
  · exact ⟨rfl, s.size, 0, rfl, nolt _, Nat.zero_le _, rfl⟩
  rintro n st ⟨i, rfl, hI, hle, rfl⟩
  repeat' first
    | (refine And.intro ?_ ?_)
    | (intro h; simp only [reduceCtorEq] at h; done)
    | (intro h; rw [h])
    | (intro h)
  all_goals first
    | (show lowEdges _ = true; kernel_rfl) | (show logOk _ _ = true; kernel_rfl) | exact True.intro | exact Or.inr rfl | exact Or.inl rfl
    | with_reducible exact Int.natCast_nonneg _
    | (have hi : i < s.size := ltN (by with_reducible assumption)
       first
         | with_reducible exact of_decide_eq_true (by with_reducible assumption)
         | (show (Int.toNat (i : Int)) < _; rw [Int.toNat_natCast]; exact hi)
         | (show (i : Int) < _; omega)
           | exact ⟨_, _, _, rfl⟩
           | (unfold nameSh; refine resBs (i := i) (P := fun j => wordB s j) hi ?_; first | (show _ = _; simp_all only [wordB, letB, digB, Bool.not_eq_true', Bool.not_eq_false', Bool.not_true, Bool.not_false, Bool.or_true, Bool.true_or, Bool.or_false, Bool.false_or, Bool.and_true, Bool.true_and, Bool.and_false, Bool.false_and, Bool.not_not]; done) | skip; done)
           | (unfold nameSh; exact resBe (P := fun j => wordB s j) hI hi rfl)
           | (refine ⟨s.size - (i + 1), by omega, i + 1, ?_, all_succ hI (P := fun j => wordB s j) ?_, by omega, rfl⟩
              · exact congrArg (fun z : Int => (([sArg s, .val false [.i .i64 z]], []) : Snap)) (wrapN hi hl)
              · first | (show _ = _; simp_all only [wordB, letB, digB, Bool.not_eq_true', Bool.not_eq_false', Bool.not_true, Bool.not_false, Bool.or_true, Bool.true_or, Bool.or_false, Bool.false_or, Bool.and_true, Bool.true_and, Bool.and_false, Bool.false_and, Bool.not_not]; done) | skip; done))
    | (have hi : ¬ i < s.size := nltN (by with_reducible assumption)
       first
           | exact ⟨_, _, _, rfl⟩
           | (unfold nameSh; refine resBs (i := i) (P := fun j => wordB s j) hi ?_; first | (show _ = _; simp_all only [wordB, letB, digB, Bool.not_eq_true', Bool.not_eq_false', Bool.not_true, Bool.not_false, Bool.or_true, Bool.true_or, Bool.or_false, Bool.false_or, Bool.and_true, Bool.true_and, Bool.and_false, Bool.false_and, Bool.not_not]; done) | skip; done)
           | (unfold nameSh; exact resBe (P := fun j => wordB s j) hI hi rfl)
           | (refine ⟨s.size - (i + 1), by omega, i + 1, ?_, all_succ hI (P := fun j => wordB s j) ?_, by omega, rfl⟩
              · exact congrArg (fun z : Int => (([sArg s, .val false [.i .i64 z]], []) : Snap)) (wrapN hi hl)
              · first | (show _ = _; simp_all only [wordB, letB, digB, Bool.not_eq_true', Bool.not_eq_false', Bool.not_true, Bool.not_false, Bool.or_true, Bool.true_or, Bool.or_false, Bool.false_or, Bool.and_true, Bool.true_and, Bool.and_false, Bool.false_and, Bool.not_not]; done) | skip; done))
    | (show Alive _ _; exact rfl)
    | exact absurd (show (!false) = false by with_reducible assumption) (by decide)
    | exact absurd (show (!true) = true by with_reducible assumption) (by decide)
    | skip
theorem xk91 : FOk Tryz.prog T 91 (spTB nameIm) := by
  refine fok (env := envL [(32, spIn)]) (N := 42) tabT (envL_cons xk32 envL_nil) mixed Tryz.func91 rfl Tryz.call91 Tryz.ntmps91 ?_
  rintro args ⟨s, rfl⟩ hwf
  have hl : s.size ≤ maxLen := arg0 hwf (List.mem_singleton_self _)
  refine ⟨by simp, ?_⟩
  clear hwf
  rw [Tryz.results91]
  repeat' first
    | (refine And.intro ?_ ?_)
    | (intro h; simp only [reduceCtorEq] at h; done)
    | (intro h; rw [h])
    | (intro h)
  all_goals first
    | (show lowEdges _ = true; kernel_rfl) | (show logOk _ _ = true; kernel_rfl) | exact True.intro | exact Or.inr rfl | exact Or.inl rfl
    | skip
  refine awp_loop (Q := _) [0, 3] [] (fun n st => ∃ i : Nat, st = ([sArg s, .val false [.i .i64 (i : Int)]], []) ∧ (∀ j, j < i → wordB s j = true) ∧ i ≤ s.size ∧ n = s.size - i) ?_ ?_
  · exact ⟨rfl, s.size, 0, rfl, nolt _, Nat.zero_le _, rfl⟩
  rintro n st ⟨i, rfl, hI, hle, rfl⟩
  repeat' first
    | (refine And.intro ?_ ?_)
    | (intro h; simp only [reduceCtorEq] at h; done)
    | (intro h; rw [h])
    | (intro h)
  all_goals first
    | (show lowEdges _ = true; kernel_rfl) | (show logOk _ _ = true; kernel_rfl) | exact True.intro | exact Or.inr rfl | exact Or.inl rfl
    | with_reducible exact Int.natCast_nonneg _
    | (have hi : i < s.size := ltN (by with_reducible assumption)
       first
         | with_reducible exact of_decide_eq_true (by with_reducible assumption)
         | (show (Int.toNat (i : Int)) < _; rw [Int.toNat_natCast]; exact hi)
         | (show (i : Int) < _; omega)
           | exact ⟨_, _, _, rfl⟩
           | (unfold nameIm; refine resBs (i := i) (P := fun j => wordB s j) hi ?_; first | (show _ = _; simp_all only [wordB, letB, digB, Bool.not_eq_true', Bool.not_eq_false', Bool.not_true, Bool.not_false, Bool.or_true, Bool.true_or, Bool.or_false, Bool.false_or, Bool.and_true, Bool.true_and, Bool.and_false, Bool.false_and, Bool.not_not]; done) | (show _ = _; simp_all only [wordB, letB, digB, lt48, gt57, Bool.not_eq_true', Bool.not_eq_false', Bool.not_true, Bool.not_false, Bool.or_true, Bool.true_or, Bool.or_false, Bool.false_or, Bool.and_true, Bool.true_and, Bool.and_false, Bool.false_and, Bool.not_not]; done))
           | (unfold nameIm; exact resBe (P := fun j => wordB s j) hI hi rfl)
           | (refine ⟨s.size - (i + 1), by omega, i + 1, ?_, all_succ hI (P := fun j => wordB s j) ?_, by omega, rfl⟩
              · exact congrArg (fun z : Int => (([sArg s, .val false [.i .i64 z]], []) : Snap)) (wrapN hi hl)
              · first | (show _ = _; simp_all only [wordB, letB, digB, Bool.not_eq_true', Bool.not_eq_false', Bool.not_true, Bool.not_false, Bool.or_true, Bool.true_or, Bool.or_false, Bool.false_or, Bool.and_true, Bool.true_and, Bool.and_false, Bool.false_and, Bool.not_not]; done) | (show _ = _; simp_all only [wordB, letB, digB, lt48, gt57, Bool.not_eq_true', Bool.not_eq_false', Bool.not_true, Bool.not_false, Bool.or_true, Bool.true_or, Bool.or_false, Bool.false_or, Bool.and_true, Bool.true_and, Bool.and_false, Bool.false_and, Bool.not_not]; done)))
    | (have hi : ¬ i < s.size := nltN (by with_reducible assumption)
       first
           | exact ⟨_, _, _, rfl⟩
           | (unfold nameIm; refine resBs (i := i) (P := fun j => wordB s j) hi ?_; first | (show _ = _; simp_all only [wordB, letB, digB, Bool.not_eq_true', Bool.not_eq_false', Bool.not_true, Bool.not_false, Bool.or_true, Bool.true_or, Bool.or_false, Bool.false_or, Bool.and_true, Bool.true_and, Bool.and_false, Bool.false_and, Bool.not_not]; done) | (show _ = _; simp_all only [wordB, letB, digB, lt48, gt57, Bool.not_eq_true', Bool.not_eq_false', Bool.not_true, Bool.not_false, Bool.or_true, Bool.true_or, Bool.or_false, Bool.false_or, Bool.and_true, Bool.true_and, Bool.and_false, Bool.false_and, Bool.not_not]; done))
           | (unfold nameIm; exact resBe (P := fun j => wordB s j) hI hi rfl)
           | (refine ⟨s.size - (i + 1), by omega, i + 1, ?_, all_succ hI (P := fun j => wordB s j) ?_, by omega, rfl⟩
              · exact congrArg (fun z : Int => (([sArg s, .val false [.i .i64 z]], []) : Snap)) (wrapN hi hl)
              · first | (show _ = _; simp_all only [wordB, letB, digB, Bool.not_eq_true', Bool.not_eq_false', Bool.not_true, Bool.not_false, Bool.or_true, Bool.true_or, Bool.or_false, Bool.false_or, Bool.and_true, Bool.true_and, Bool.and_false, Bool.false_and, Bool.not_not]; done) | (show _ = _; simp_all only [wordB, letB, digB, lt48, gt57, Bool.not_eq_true', Bool.not_eq_false', Bool.not_true, Bool.not_false, Bool.or_true, Bool.true_or, Bool.or_false, Bool.false_or, Bool.and_true, Bool.true_and, Bool.and_false, Bool.false_and, Bool.not_not]; done)))
    | (show Alive _ _; exact rfl)
    | exact absurd (show (!false) = false by with_reducible assumption) (by decide)
    | exact absurd (show (!true) = true by with_reducible assumption) (by decide)
    | skip
theorem xk112 : FOk Tryz.prog T 112 (spWords resvB) := by
  refine fok (env := envL []) (N := 2) tabT envL_nil mixed Tryz.func112 rfl Tryz.call112 Tryz.ntmps112 ?_
  rintro args rfl hwf
  refine ⟨by simp, ?_⟩
  clear hwf
  rw [Tryz.results112]
  repeat' first
    | (refine And.intro ?_ ?_)
    | (intro h; simp only [reduceCtorEq] at h; done)
    | (intro h; rw [h])
    | (intro h)
  all_goals first
    | (show lowEdges _ = true; kernel_rfl) | (show logOk _ _ = true; kernel_rfl) | exact True.intro | exact Or.inr rfl | exact Or.inl rfl
    | exact rfl
    | omega
    | decide
    | skip
theorem xk111 : FOk Tryz.prog T 111 (spSTB hasT) := by
  refine fok (env := envL []) (N := 18) tabT envL_nil mixed Tryz.func111 rfl Tryz.call111 Tryz.ntmps111 ?_
  rintro args ⟨a, s, rfl⟩ hwf
  have hl : a.length ≤ maxLen := (show WfD T (.l 9) (.l a) from arg0 hwf (List.mem_singleton_self _)).len
  refine ⟨by simp, ?_⟩
  clear hwf
  rw [Tryz.results111]
  repeat' first
    | (refine And.intro ?_ ?_)
    | (intro h; simp only [reduceCtorEq] at h; done)
    | (intro h; rw [h])
    | (intro h)
  all_goals first
    | (show lowEdges _ = true; kernel_rfl) | (show logOk _ _ = true; kernel_rfl) | exact True.intro | exact Or.inr rfl | exact Or.inl rfl
    | skip
  refine awp_loop (Q := _) [0, 1, 5] [] (fun n st => ∃ i : Nat, st = ([argS 9 a, sArg s, .val false [.i .i64 (i : Int)]], []) ∧ (∀ j, j < i → (!isAt a s j) = true) ∧ i ≤ a.length ∧ n = a.length - i) ?_ ?_
  · exact ⟨rfl, a.length, 0, rfl, nolt _, Nat.zero_le _, rfl⟩
  rintro n st ⟨i, rfl, hI, hle, rfl⟩
  repeat' first
    | (refine And.intro ?_ ?_)
    | (intro h; simp only [reduceCtorEq] at h; done)
    | (intro h; rw [h])
    | (intro h)
  all_goals first
    | (show lowEdges _ = true; kernel_rfl) | (show logOk _ _ = true; kernel_rfl) | exact True.intro | exact Or.inr rfl | exact Or.inl rfl
    | with_reducible exact Int.natCast_nonneg _
    | (have hi : i < a.length := ltN (by with_reducible assumption)
       first
         | with_reducible exact of_decide_eq_true (by with_reducible assumption)
         | (show (Int.toNat (i : Int)) < _; rw [Int.toNat_natCast]; exact hi)
         | (show (i : Int) < _; omega)
           | exact resBn (P := fun j => !isAt a s j) hi (notT (by with_reducible assumption))
           | exact resBm (P := fun j => !isAt a s j) hI hi
           | (refine ⟨a.length - (i + 1), by omega, i + 1, ?_, all_succ hI (P := fun j => (!isAt a s j)) ?_, by omega, rfl⟩
              · exact congrArg (fun z : Int => (([argS 9 a, sArg s, .val false [.i .i64 z]], []) : Snap)) (wrapN hi hl)
              · exact notF (by with_reducible assumption)))
    | (have hi : ¬ i < a.length := nltN (by with_reducible assumption)
       first
           | exact resBn (P := fun j => !isAt a s j) hi (notT (by with_reducible assumption))
           | exact resBm (P := fun j => !isAt a s j) hI hi
           | (refine ⟨a.length - (i + 1), by omega, i + 1, ?_, all_succ hI (P := fun j => (!isAt a s j)) ?_, by omega, rfl⟩
              · exact congrArg (fun z : Int => (([argS 9 a, sArg s, .val false [.i .i64 z]], []) : Snap)) (wrapN hi hl)
              · exact notF (by with_reducible assumption)))
    | (show Alive _ _; exact rfl)
    | exact absurd (show (!false) = false by with_reducible assumption) (by decide)
    | exact absurd (show (!true) = true by with_reducible assumption) (by decide)
    | skip
theorem xk96 : FOk Tryz.prog T 96 (spTB isResv) := by
  refine fok (env := envL [(112, (spWords resvB)), (111, (spSTB hasT))]) (N := 6) tabT (envL_cons xk112 (envL_cons xk111 envL_nil)) mixed Tryz.func96 rfl Tryz.call96 Tryz.ntmps96 ?_
  rintro args ⟨s, rfl⟩ hwf
  refine ⟨by simp, ?_⟩
  clear hwf
  rw [Tryz.results96]
  repeat' first
    | (refine And.intro ?_ ?_)
    | (intro h; simp only [reduceCtorEq] at h; done)
    | (intro h; rw [h])
    | (intro h)
  all_goals first
    | (show lowEdges _ = true; kernel_rfl) | (show logOk _ _ = true; kernel_rfl) | exact True.intro | exact Or.inr rfl | exact Or.inl rfl
    | exact rfl
    | exact ⟨_, _, rfl⟩
    | exact resB (hasT_resv s)
    | skip
theorem xk100 : FOk Tryz.prog T 100 spArgC := by
  refine fok (env := envL []) (N := 26) tabT envL_nil mixed Tryz.func100 rfl Tryz.call100 Tryz.ntmps100 ?_
  rintro args ⟨s, rfl⟩ hwf
  refine ⟨by simp, ?_⟩
  clear hwf
  rw [Tryz.results100]
  repeat' first
    | (refine And.intro ?_ ?_)
    | (intro h; simp only [reduceCtorEq] at h; done)
    | (intro h; rw [h])
    | (intro h)
  all_goals first
    | (show lowEdges _ = true; kernel_rfl) | (show logOk _ _ = true; kernel_rfl) | exact True.intro | exact Or.inr rfl | exact Or.inl rfl
    | exact rfl
    | exact ⟨_, rfl⟩
    | (refine resI ?_; simp only [argC, *, if_true, Bool.or_true, Bool.true_or, Bool.or_false, Bool.false_or]; done)
    | (refine resI ?_; simp only [argC, *, if_true, Bool.or_true, Bool.true_or, Bool.or_false, Bool.false_or]; rfl)
    | skip
theorem xk92 : FOk Tryz.prog T 92 (spTB isResv) := by
  refine fok (env := envL [(100, spArgC)]) (N := 15) tabT (envL_cons xk100 envL_nil) mixed Tryz.func92 rfl Tryz.call92 Tryz.ntmps92 ?_
  rintro args ⟨s, rfl⟩ hwf
  refine ⟨by simp, ?_⟩
  clear hwf
  rw [Tryz.results92]
  repeat' first
    | (refine And.intro ?_ ?_)
    | (intro h; simp only [reduceCtorEq] at h; done)
    | (intro h; rw [h])
    | (intro h)
  all_goals first
    | (show lowEdges _ = true; kernel_rfl) | (show logOk _ _ = true; kernel_rfl) | exact True.intro | exact Or.inr rfl | exact Or.inl rfl
    | exact rfl
    | exact ⟨_, rfl⟩
    | (refine resB ((?_ : _ = resvI s).trans (resvI_eq s)); simp only [resvI, *, Bool.or_true, Bool.true_or, Bool.or_false, Bool.false_or]; done)
    | (refine resB ((?_ : _ = resvI s).trans (resvI_eq s)); simp only [resvI, *, Bool.or_true, Bool.true_or, Bool.or_false, Bool.false_or]; rfl)
    | skip
theorem xk84 : FOk Tryz.prog T 84 (spTB nameOk) := by
  refine fok (env := envL [(95, (spTB nameSh)), (96, (spTB isResv))]) (N := 15) tabT (envL_cons xk95 (envL_cons xk96 envL_nil)) mixed Tryz.func84 rfl Tryz.call84 Tryz.ntmps84 ?_
  rintro args ⟨s, rfl⟩ hwf
  refine ⟨by simp, ?_⟩
  clear hwf
  rw [Tryz.results84]
  repeat' first
    | (refine And.intro ?_ ?_)
    | (intro h; simp only [reduceCtorEq] at h; done)
    | (intro h; rw [h])
    | (intro h)
  all_goals first
    | (show lowEdges _ = true; kernel_rfl) | (show logOk _ _ = true; kernel_rfl) | exact True.intro | exact Or.inr rfl | exact Or.inl rfl
    | exact rfl
    | exact ⟨_, rfl⟩
    | (refine resB ?_; simp_all only [nameOk, Bool.not_eq_true', Bool.not_eq_false', Bool.not_true, Bool.not_false, Bool.or_true, Bool.true_or, Bool.or_false, Bool.false_or, Bool.and_true, Bool.true_and, Bool.and_false, Bool.false_and, Bool.not_not]; done)
    | skip
theorem xk76 : FOk Tryz.prog T 76 (spTB nameOk) := by
  refine fok (env := envL [(91, (spTB nameIm)), (92, (spTB isResv))]) (N := 10) tabT (envL_cons xk91 (envL_cons xk92 envL_nil)) mixed Tryz.func76 rfl Tryz.call76 Tryz.ntmps76 ?_
  rintro args ⟨s, rfl⟩ hwf
  refine ⟨by simp, ?_⟩
  clear hwf
  rw [Tryz.results76]
  repeat' first
    | (refine And.intro ?_ ?_)
    | (intro h; simp only [reduceCtorEq] at h; done)
    | (intro h; rw [h])
    | (intro h)
  all_goals first
    | (show lowEdges _ = true; kernel_rfl) | (show logOk _ _ = true; kernel_rfl) | exact True.intro | exact Or.inr rfl | exact Or.inl rfl
    | exact rfl
    | exact ⟨_, rfl⟩
    | exact ⟨_, _, _, rfl⟩
    | (refine resB ((?_ : _ = (nameIm s && !isResv s)).trans (nameIm_eq s)); simp_all only [Bool.not_eq_true', Bool.not_eq_false', Bool.not_true, Bool.not_false, Bool.or_true, Bool.true_or, Bool.or_false, Bool.false_or, Bool.and_true, Bool.true_and, Bool.and_false, Bool.false_and, Bool.not_not]; done)
    | skip
theorem xk83 : FOk Tryz.prog T 83 (spTB prOk) := by
  refine fok (env := envL []) (N := 23) tabT envL_nil mixed Tryz.func83 rfl Tryz.call83 Tryz.ntmps83 ?_
  rintro args ⟨s, rfl⟩ hwf
  have hl : s.size ≤ maxLen := arg0 hwf (List.mem_singleton_self _)
  refine ⟨by simp, ?_⟩
  clear hwf
  rw [Tryz.results83]
  repeat' first
    | (refine And.intro ?_ ?_)
    | (intro h; simp only [reduceCtorEq] at h; done)
    | (intro h; rw [h])
    | (intro h)
  all_goals first
    | (show lowEdges _ = true; kernel_rfl) | (show logOk _ _ = true; kernel_rfl) | exact True.intro | exact Or.inr rfl | exact Or.inl rfl
    | skip
  refine awp_loop (Q := _) [0, 3] [] (fun n st => ∃ i : Nat, st = ([sArg s, .val false [.i .i64 (i : Int)]], []) ∧ (∀ j, j < i → prByte (bAt s j) = true) ∧ i ≤ s.size ∧ n = s.size - i) ?_ ?_
  · exact ⟨rfl, s.size, 0, rfl, nolt _, Nat.zero_le _, rfl⟩
  rintro n st ⟨i, rfl, hI, hle, rfl⟩
  repeat' first
    | (refine And.intro ?_ ?_)
    | (intro h; simp only [reduceCtorEq] at h; done)
    | (intro h; rw [h])
    | (intro h)
  all_goals first
    | (show lowEdges _ = true; kernel_rfl) | (show logOk _ _ = true; kernel_rfl) | exact True.intro | exact Or.inr rfl | exact Or.inl rfl
    | with_reducible exact Int.natCast_nonneg _
    | (have hi : i < s.size := ltN (by with_reducible assumption)
       first
         | with_reducible exact of_decide_eq_true (by with_reducible assumption)
         | (show (Int.toNat (i : Int)) < _; rw [Int.toNat_natCast]; exact hi)
         | (show (i : Int) < _; omega)
           | exact ⟨_, _, _, rfl⟩
           | (unfold prOk; refine resBs (i := i) (P := fun j => prByte (bAt s j)) hi ?_; first | (show _ = _; simp_all only [prByte, Bool.not_eq_true', Bool.not_eq_false', Bool.not_true, Bool.not_false, Bool.or_true, Bool.true_or, Bool.or_false, Bool.false_or, Bool.and_true, Bool.true_and, Bool.and_false, Bool.false_and, Bool.not_not]; done) | skip; done)
           | (unfold prOk; exact resBe (P := fun j => prByte (bAt s j)) hI hi rfl)
           | (refine ⟨s.size - (i + 1), by omega, i + 1, ?_, all_succ hI (P := fun j => prByte (bAt s j)) ?_, by omega, rfl⟩
              · exact congrArg (fun z : Int => (([sArg s, .val false [.i .i64 z]], []) : Snap)) (wrapN hi hl)
              · first | (show _ = _; simp_all only [prByte, Bool.not_eq_true', Bool.not_eq_false', Bool.not_true, Bool.not_false, Bool.or_true, Bool.true_or, Bool.or_false, Bool.false_or, Bool.and_true, Bool.true_and, Bool.and_false, Bool.false_and, Bool.not_not]; done) | skip; done))
    | (have hi : ¬ i < s.size := nltN (by with_reducible assumption)
       first
           | exact ⟨_, _, _, rfl⟩
           | (unfold prOk; refine resBs (i := i) (P := fun j => prByte (bAt s j)) hi ?_; first | (show _ = _; simp_all only [prByte, Bool.not_eq_true', Bool.not_eq_false', Bool.not_true, Bool.not_false, Bool.or_true, Bool.true_or, Bool.or_false, Bool.false_or, Bool.and_true, Bool.true_and, Bool.and_false, Bool.false_and, Bool.not_not]; done) | skip; done)
           | (unfold prOk; exact resBe (P := fun j => prByte (bAt s j)) hI hi rfl)
           | (refine ⟨s.size - (i + 1), by omega, i + 1, ?_, all_succ hI (P := fun j => prByte (bAt s j)) ?_, by omega, rfl⟩
              · exact congrArg (fun z : Int => (([sArg s, .val false [.i .i64 z]], []) : Snap)) (wrapN hi hl)
              · first | (show _ = _; simp_all only [prByte, Bool.not_eq_true', Bool.not_eq_false', Bool.not_true, Bool.not_false, Bool.or_true, Bool.true_or, Bool.or_false, Bool.false_or, Bool.and_true, Bool.true_and, Bool.and_false, Bool.false_and, Bool.not_not]; done) | skip; done))
    | (show Alive _ _; exact rfl)
    | exact absurd (show (!false) = false by with_reducible assumption) (by decide)
    | exact absurd (show (!true) = true by with_reducible assumption) (by decide)
    | skip
theorem xk75 : FOk Tryz.prog T 75 (spTB prOk) := by
  refine fok (env := envL []) (N := 23) tabT envL_nil mixed Tryz.func75 rfl Tryz.call75 Tryz.ntmps75 ?_
  rintro args ⟨s, rfl⟩ hwf
  have hl : s.size ≤ maxLen := arg0 hwf (List.mem_singleton_self _)
  refine ⟨by simp, ?_⟩
  clear hwf
  rw [Tryz.results75]
  repeat' first
    | (refine And.intro ?_ ?_)
    | (intro h; simp only [reduceCtorEq] at h; done)
    | (intro h; rw [h])
    | (intro h)
  all_goals first
    | (show lowEdges _ = true; kernel_rfl) | (show logOk _ _ = true; kernel_rfl) | exact True.intro | exact Or.inr rfl | exact Or.inl rfl
    | skip
  refine awp_loop (Q := _) [0, 3] [] (fun n st => ∃ i : Nat, st = ([sArg s, .val false [.i .i64 (i : Int)]], []) ∧ (∀ j, j < i → prByte (bAt s j) = true) ∧ i ≤ s.size ∧ n = s.size - i) ?_ ?_
  · exact ⟨rfl, s.size, 0, rfl, nolt _, Nat.zero_le _, rfl⟩
  rintro n st ⟨i, rfl, hI, hle, rfl⟩
  repeat' first
    | (refine And.intro ?_ ?_)
    | (intro h; simp only [reduceCtorEq] at h; done)
    | (intro h; rw [h])
    | (intro h)
  all_goals first
    | (show lowEdges _ = true; kernel_rfl) | (show logOk _ _ = true; kernel_rfl) | exact True.intro | exact Or.inr rfl | exact Or.inl rfl
    | with_reducible exact Int.natCast_nonneg _
    | (have hi : i < s.size := ltN (by with_reducible assumption)
       first
         | with_reducible exact of_decide_eq_true (by with_reducible assumption)
         | (show (Int.toNat (i : Int)) < _; rw [Int.toNat_natCast]; exact hi)
         | (show (i : Int) < _; omega)
           | exact ⟨_, _, _, rfl⟩
           | (unfold prOk; refine resBs (i := i) (P := fun j => prByte (bAt s j)) hi ?_; first | (show _ = _; simp_all only [prByte, Bool.not_eq_true', Bool.not_eq_false', Bool.not_true, Bool.not_false, Bool.or_true, Bool.true_or, Bool.or_false, Bool.false_or, Bool.and_true, Bool.true_and, Bool.and_false, Bool.false_and, Bool.not_not]; done) | skip; done)
           | (unfold prOk; exact resBe (P := fun j => prByte (bAt s j)) hI hi rfl)
           | (refine ⟨s.size - (i + 1), by omega, i + 1, ?_, all_succ hI (P := fun j => prByte (bAt s j)) ?_, by omega, rfl⟩
              · exact congrArg (fun z : Int => (([sArg s, .val false [.i .i64 z]], []) : Snap)) (wrapN hi hl)
              · first | (show _ = _; simp_all only [prByte, Bool.not_eq_true', Bool.not_eq_false', Bool.not_true, Bool.not_false, Bool.or_true, Bool.true_or, Bool.or_false, Bool.false_or, Bool.and_true, Bool.true_and, Bool.and_false, Bool.false_and, Bool.not_not]; done) | skip; done))
    | (have hi : ¬ i < s.size := nltN (by with_reducible assumption)
       first
           | exact ⟨_, _, _, rfl⟩
           | (unfold prOk; refine resBs (i := i) (P := fun j => prByte (bAt s j)) hi ?_; first | (show _ = _; simp_all only [prByte, Bool.not_eq_true', Bool.not_eq_false', Bool.not_true, Bool.not_false, Bool.or_true, Bool.true_or, Bool.or_false, Bool.false_or, Bool.and_true, Bool.true_and, Bool.and_false, Bool.false_and, Bool.not_not]; done) | skip; done)
           | (unfold prOk; exact resBe (P := fun j => prByte (bAt s j)) hI hi rfl)
           | (refine ⟨s.size - (i + 1), by omega, i + 1, ?_, all_succ hI (P := fun j => prByte (bAt s j)) ?_, by omega, rfl⟩
              · exact congrArg (fun z : Int => (([sArg s, .val false [.i .i64 z]], []) : Snap)) (wrapN hi hl)
              · first | (show _ = _; simp_all only [prByte, Bool.not_eq_true', Bool.not_eq_false', Bool.not_true, Bool.not_false, Bool.or_true, Bool.true_or, Bool.or_false, Bool.false_or, Bool.and_true, Bool.true_and, Bool.and_false, Bool.false_and, Bool.not_not]; done) | skip; done))
    | (show Alive _ _; exact rfl)
    | exact absurd (show (!false) = false by with_reducible assumption) (by decide)
    | exact absurd (show (!true) = true by with_reducible assumption) (by decide)
    | skip
end Go.Proofs.YtodddilaniojgaaGreat.Ab
