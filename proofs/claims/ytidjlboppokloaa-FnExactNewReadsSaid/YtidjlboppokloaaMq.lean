/- The text of a number that a mark writes: the law's markText. -/
import Derived.Test.YtidjlboppokloaaMh
import Derived.IntWalk
namespace Go.Proofs.Ytidjlboppokloaa.Ab
open Go.RowKit
set_option linter.unusedVariables false
set_option linter.unusedSimpArgs false
set_option maxRecDepth 100000
set_option maxHeartbeats 2000000
/-- A digit; digits laid ahead of a text. -/
def digX (k : Int) : ByteArray := bytesOf ([] ++ [[D.i (IntKind.u8.wrap (IntKind.i64.wrap (48 + k.tmod 10)))]])
def mtD : Nat → Int → ByteArray → ByteArray
  | 0, _, t => t
  | n + 1, k, t => if k > 0 then mtD n (k.tdiv 10) (digX k ++ t) else t
theorem mtD_end {n : Nat} {k : Int} {t : ByteArray} (h : ¬ k > 0) : mtD n k t = t := by
  cases n with
  | zero => rfl
  | succ n => rw [mtD, if_neg h]
theorem mtD_go {n : Nat} {k : Int} {t : ByteArray} (h : k > 0) : mtD (n + 1) k t = mtD n (k.tdiv 10) (digX k ++ t) := by rw [mtD, if_pos h]
theorem digX_size (k : Int) : (digX k).size = 1 := rfl
theorem tdiv_lt {m : Nat} {x : Int} (h0 : 0 < x) (h : x < 2 ^ m) : ∃ g, m = g + 1 ∧ 0 ≤ x.tdiv 10 ∧ x.tdiv 10 < 2 ^ g := by
  cases m with
  | zero => simp at h; omega
  | succ g =>
    refine ⟨g, rfl, Int.tdiv_nonneg (by omega) (by decide), ?_⟩
    rw [Int.tdiv_eq_ediv_of_nonneg (by omega)]
    rw [Int.pow_succ] at h
    omega
theorem ok48 : FOk Try.prog T 48 (spMT fun k => ⟨#[109]⟩ ++ mtD 63 k ⟨#[]⟩) := by
  refine fok (env := envL []) (N := 20) tabT envL_nil mixed Try.func48 rfl Try.call48 Try.ntmps48 ?_
  rintro args ⟨k, h1, h2, rfl⟩ hwf
  clear hwf
  refine ⟨by simp, ?_⟩
  rw [Try.results48]
  repeat' first
    | (refine And.intro ?_ ?_)
    | (intro h; simp only [reduceCtorEq] at h; done)
    | (intro h; exact absurd (of_decide_eq_true h) (by omega))
    | (intro h)
  all_goals first
    | (show lowEdges _ = true; kernel_rfl) | (show logOk _ _ = true; kernel_rfl) | exact True.intro | exact Or.inr rfl | exact Or.inl rfl
    | skip
  refine awp_loop (Q := _) [0, 3] [] (fun m st => ∃ (x : Int) (t : ByteArray), st = ([.val false [.i .i64 x], .val false [.s t]], []) ∧ 0 ≤ x ∧ x ≤ 4611686018427387904 ∧ x < 2 ^ m ∧ t.size + m ≤ 63 ∧ mtD m x t = mtD 63 k ⟨#[]⟩) ?_ ?_
  · exact ⟨rfl, 63, k, _, rfl, by omega, h2, by omega, Nat.le_refl _, rfl⟩
  rintro m st ⟨x, t, rfl, h3, hx, h4, h5, h6⟩
  repeat' first
    | (refine And.intro ?_ ?_)
    | (intro h; simp only [reduceCtorEq] at h; done)
    | (intro h)
  all_goals first
    | (show lowEdges _ = true; kernel_rfl) | (show logOk _ _ = true; kernel_rfl) | exact True.intro | exact Or.inr rfl | exact Or.inl rfl
    | exact absurd h (by decide)
    | (show Alive _ _; exact rfl)
    | (have ht := Int.tmod_nonneg 10 h3
       have ht2 := Int.tmod_lt_of_pos x (show (0 : Int) < 10 by decide)
       have e1 : IntKind.i64.min = -9223372036854775808 := by decide
       have e2 : IntKind.i64.max = 9223372036854775807 := by decide
       first
         | (rw [e1]; omega)
         | (rw [e2]; omega)
         | (show (digX x).size + t.size ≤ maxLen; rw [digX_size]; simp only [maxLen]; omega))
    | (have h7 : x > 0 := of_decide_eq_true (by assumption)
       obtain ⟨g, rfl, h8, h9⟩ := tdiv_lt h7 h4
       have h10 : x.tdiv 10 ≤ 4611686018427387904 := by rw [Int.tdiv_eq_ediv_of_nonneg h3]; omega
       refine ⟨g, Nat.lt_succ_self _, x.tdiv 10, digX x ++ t, ?_, h8, h10, h9, by rw [ByteArray.size_append, digX_size]; omega, (mtD_go h7).symm.trans h6⟩
       first
         | rfl
         | exact congrArg (fun z : Int => (([.val false [.i .i64 z], .val false [.s (digX x ++ t)]], []) : Snap)) (IntWalk.i64_in _ (by omega)))
    | (have h7 : ¬ x > 0 := of_decide_eq_false (by assumption)
       have hE := (mtD_end h7).symm.trans h6
       first
         | (show (⟨#[109]⟩ : ByteArray).size + t.size ≤ maxLen; show 1 + t.size ≤ maxLen; simp only [maxLen]; omega)
         | exact congrArg (fun z : ByteArray => [CV.s ((⟨#[109]⟩ : ByteArray) ++ z)]) hE)
    | skip
end Go.Proofs.Ytidjlboppokloaa.Ab
