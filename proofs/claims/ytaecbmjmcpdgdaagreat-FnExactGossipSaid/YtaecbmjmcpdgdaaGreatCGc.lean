/- Operations' checks and logs, exactly: printed by a program of this claim. -/
import Derived.Test.YtaecbmjmcpdgdaaGreatCGa
namespace Go.Proofs.YtaecbmjmcpdgdaaGreat.Ab
open Go.RowKit
set_option linter.unusedVariables false
set_option linter.unusedSimpArgs false
set_option maxRecDepth 100000
set_option maxHeartbeats 2000000
theorem xk30 : FOk Tryz.prog T 30 spIn := by
  refine fok (env := envL []) (N := 15) tabT envL_nil mixed Tryz.func30 rfl Tryz.call30 Tryz.ntmps30 ?_
  rintro args ⟨x, lo, hi, rfl⟩ hwf
  refine ⟨by simp, ?_⟩
  clear hwf
  rw [Tryz.results30]
  repeat' first
    | (refine And.intro ?_ ?_)
    | (intro h; simp only [reduceCtorEq] at h; done)
    | (intro h; rw [h])
    | (intro h)
  all_goals first
    | (show lowEdges _ = true; kernel_rfl) | (show logOk _ _ = true; kernel_rfl) | exact True.intro | exact Or.inr rfl | exact Or.inl rfl
    | exact rfl
    | (refine resB ?_; unfold inR; simp_all only [ge_iff_le, Bool.not_eq_true', Bool.not_eq_false', Bool.not_true, Bool.not_false, Bool.or_true, Bool.true_or, Bool.or_false, Bool.false_or, Bool.and_true, Bool.true_and, Bool.and_false, Bool.false_and, Bool.not_not]; done)
    | skip
theorem xk33 : FOk Tryz.prog T 33 spIn := by
  refine fok (env := envL []) (N := 15) tabT envL_nil mixed Tryz.func33 rfl Tryz.call33 Tryz.ntmps33 ?_
  rintro args ⟨x, lo, hi, rfl⟩ hwf
  refine ⟨by simp, ?_⟩
  clear hwf
  rw [Tryz.results33]
  repeat' first
    | (refine And.intro ?_ ?_)
    | (intro h; simp only [reduceCtorEq] at h; done)
    | (intro h; rw [h])
    | (intro h)
  all_goals first
    | (show lowEdges _ = true; kernel_rfl) | (show logOk _ _ = true; kernel_rfl) | exact True.intro | exact Or.inr rfl | exact Or.inl rfl
    | exact rfl
    | (refine resB ?_; unfold inR; simp_all only [ge_iff_le, Bool.not_eq_true', Bool.not_eq_false', Bool.not_true, Bool.not_false, Bool.or_true, Bool.true_or, Bool.or_false, Bool.false_or, Bool.and_true, Bool.true_and, Bool.and_false, Bool.false_and, Bool.not_not]; done)
    | skip
theorem xk28 : FOk Tryz.prog T 28 (spB2 opLt [.i .i64, .i .i64, .i .i64, .l 3, .i .i64, .i .i64, .i .i64, .i .i64, .i .i64, .s, .s, .i .i64, .s, .s, .i .i64, .i .i64, .l 94]) := by
  refine fok (env := envL []) (N := 24) tabT envL_nil mixed Tryz.func28 rfl Tryz.call28 Tryz.ntmps28 ?_
  rintro args ⟨a, b, rfl⟩ hwf
  refine ⟨by simp, ?_⟩
  clear hwf
  rw [Tryz.results28]
  repeat' first
    | (refine And.intro ?_ ?_)
    | (intro h; simp only [reduceCtorEq] at h; done)
    | (intro h; rw [h])
    | (intro h)
  all_goals first
    | (show lowEdges _ = true; kernel_rfl) | (show logOk _ _ = true; kernel_rfl) | exact True.intro | exact Or.inr rfl | exact Or.inl rfl
    | exact rfl
    | exact ⟨_, _, rfl⟩
    | (refine resB (Eq.trans ?_ (opLt_code (csD (rowC [.i .i64, .i .i64, .i .i64, .l 3, .i .i64, .i .i64, .i .i64, .i .i64, .i .i64, .s, .s, .i .i64, .s, .s, .i .i64, .i .i64, .l 94] a)) (csD (rowC [.i .i64, .i .i64, .i .i64, .l 3, .i .i64, .i .i64, .i .i64, .i .i64, .i .i64, .s, .s, .i .i64, .s, .s, .i .i64, .i .i64, .l 94] b))).symm); show _ = (decide ((a.getD 0 default).int < (b.getD 0 default).int) || (((a.getD 0 default).int == (b.getD 0 default).int) && decide ((a.getD 1 default).int < (b.getD 1 default).int))); simp only [Nat.reduceAdd] at *; simp_all only [Bool.not_eq_true', Bool.not_eq_false', Bool.not_true, Bool.not_false, Bool.or_true, Bool.true_or, Bool.or_false, Bool.false_or, Bool.and_true, Bool.true_and, Bool.and_false, Bool.false_and, Bool.not_not]; done)
    | skip
theorem xk37 : FOk Tryz.prog T 37 (spB2 opLt [.i .i64, .i .i64, .i .i64, .l 3, .i .i64, .i .i64, .i .i64, .i .i64, .i .i64, .s, .s, .i .i64, .s, .s, .i .i64, .i .i64, .l 94]) := by
  refine fok (env := envL []) (N := 24) tabT envL_nil mixed Tryz.func37 rfl Tryz.call37 Tryz.ntmps37 ?_
  rintro args ⟨a, b, rfl⟩ hwf
  refine ⟨by simp, ?_⟩
  clear hwf
  rw [Tryz.results37]
  repeat' first
    | (refine And.intro ?_ ?_)
    | (intro h; simp only [reduceCtorEq] at h; done)
    | (intro h; rw [h])
    | (intro h)
  all_goals first
    | (show lowEdges _ = true; kernel_rfl) | (show logOk _ _ = true; kernel_rfl) | exact True.intro | exact Or.inr rfl | exact Or.inl rfl
    | exact rfl
    | exact ⟨_, _, rfl⟩
    | (refine resB (Eq.trans ?_ (opLt_code (csD (rowC [.i .i64, .i .i64, .i .i64, .l 3, .i .i64, .i .i64, .i .i64, .i .i64, .i .i64, .s, .s, .i .i64, .s, .s, .i .i64, .i .i64, .l 94] a)) (csD (rowC [.i .i64, .i .i64, .i .i64, .l 3, .i .i64, .i .i64, .i .i64, .i .i64, .i .i64, .s, .s, .i .i64, .s, .s, .i .i64, .i .i64, .l 94] b))).symm); show _ = (decide ((a.getD 0 default).int < (b.getD 0 default).int) || (((a.getD 0 default).int == (b.getD 0 default).int) && decide ((a.getD 1 default).int < (b.getD 1 default).int))); simp only [Nat.reduceAdd] at *; simp_all only [Bool.not_eq_true', Bool.not_eq_false', Bool.not_true, Bool.not_false, Bool.or_true, Bool.true_or, Bool.or_false, Bool.false_or, Bool.and_true, Bool.true_and, Bool.and_false, Bool.false_and, Bool.not_not]; done)
    | skip
theorem xk47 : FOk Tryz.prog T 47 (spBL seenB 3) := by
  refine fok (env := envL [(30, spIn)]) (N := 19) tabT (envL_cons xk30 envL_nil) mixed Tryz.func47 rfl Tryz.call47 Tryz.ntmps47 ?_
  rintro args ⟨l, rfl⟩ hwf
  have hl : l.length ≤ maxLen := (show WfD T (.l 3) (.l l) from arg0 hwf (List.mem_singleton_self _)).len
  refine ⟨by simp, ?_⟩
  clear hwf
  rw [Tryz.results47]
  repeat' first
    | (refine And.intro ?_ ?_)
    | (intro h; simp only [reduceCtorEq] at h; done)
    | (intro h; rw [h])
    | (intro h)
  all_goals first
    | (show lowEdges _ = true; kernel_rfl) | (show logOk _ _ = true; kernel_rfl) | exact True.intro | exact Or.inr rfl | exact Or.inl rfl
    | skip
  refine awp_loop (Q := _) [0, 3] [] (fun n st => ∃ i : Nat, st = ([argS 3 l, .val false [.i .i64 (i : Int)]], []) ∧ (∀ j, j < i → inR ((rAt l j).getD 0 default).int 0 60 = true) ∧ i ≤ l.length ∧ n = l.length - i) ?_ ?_
  · exact ⟨rfl, l.length, 0, rfl, nolt _, Nat.zero_le _, rfl⟩
  rintro n st ⟨i, rfl, hI, hle, rfl⟩
  repeat' first
    | (refine And.intro ?_ ?_)
    | (intro h; simp only [reduceCtorEq] at h; done)
    | (intro h; rw [h])
    | (intro h)
  all_goals first
    | (show lowEdges _ = true; kernel_rfl) | (show logOk _ _ = true; kernel_rfl) | exact True.intro | exact Or.inr rfl | exact Or.inl rfl
    | with_reducible exact Int.natCast_nonneg _
    | (have hi : i < l.length := ltN (by with_reducible assumption)
       first
         | with_reducible exact of_decide_eq_true (by with_reducible assumption)
         | (show (Int.toNat (i : Int)) < _; rw [Int.toNat_natCast]; exact hi)
         | (show (i : Int) < _; omega)
           | exact ⟨_, _, _, rfl⟩
           | exact resB (seen_at hi (of_notT (by with_reducible assumption))).symm
           | exact resB (seen_end hI hi)
           | (refine ⟨l.length - (i + 1), by omega, i + 1, ?_, all_succ hI (P := fun j => inR ((rAt l j).getD 0 default).int 0 60) ?_, by omega, rfl⟩
              · exact congrArg (fun z : Int => (([argS 3 l, .val false [.i .i64 z]], []) : Snap)) (wrapN hi hl)
              · exact of_notF (by with_reducible assumption)))
    | (have hi : ¬ i < l.length := nltN (by with_reducible assumption)
       first
           | exact ⟨_, _, _, rfl⟩
           | exact resB (seen_at hi (of_notT (by with_reducible assumption))).symm
           | exact resB (seen_end hI hi)
           | (refine ⟨l.length - (i + 1), by omega, i + 1, ?_, all_succ hI (P := fun j => inR ((rAt l j).getD 0 default).int 0 60) ?_, by omega, rfl⟩
              · exact congrArg (fun z : Int => (([argS 3 l, .val false [.i .i64 z]], []) : Snap)) (wrapN hi hl)
              · exact of_notF (by with_reducible assumption)))
    | (show Alive _ _; exact rfl)
    | exact absurd (show (!false) = false by with_reducible assumption) (by decide)
    | exact absurd (show (!true) = true by with_reducible assumption) (by decide)
    | skip
theorem okRow (a : List D) : okOp (csD (rowC [.i .i64, .i .i64, .i .i64, .l 3, .i .i64, .i .i64, .i .i64, .i .i64, .i .i64, .s, .s, .i .i64, .s, .s, .i .i64, .i .i64, .l 94] a)) = okOp a := rfl
theorem xk31 : FOk Tryz.prog T 31 (spB1 okOp [.i .i64, .i .i64, .i .i64, .l 3, .i .i64, .i .i64, .i .i64, .i .i64, .i .i64, .s, .s, .i .i64, .s, .s, .i .i64, .i .i64, .l 94]) := by
  refine fok (env := envL [(30, spIn), (47, (spBL seenB 3))]) (N := 72) tabT (envL_cons xk30 (envL_cons xk47 envL_nil)) mixed Tryz.func31 rfl Tryz.call31 Tryz.ntmps31 ?_
  rintro args ⟨a, rfl⟩ hwf
  refine ⟨by simp, ?_⟩
  clear hwf
  rw [Tryz.results31]
  repeat' first
    | (refine And.intro ?_ ?_)
    | (intro h; simp only [reduceCtorEq] at h; done)
    | (intro h; rw [h])
    | (intro h)
  all_goals first
    | (show lowEdges _ = true; kernel_rfl) | (show logOk _ _ = true; kernel_rfl) | exact True.intro | exact Or.inr rfl | exact Or.inl rfl
    | exact rfl
    | exact ⟨_, rfl⟩
    | exact ⟨_, _, _, rfl⟩
    | (refine resB (Eq.trans ?_ (okRow a).symm); simp only [Nat.reduceAdd] at *; simp_all [okOp, noEdit, noNames, noTape, eqDs, eqD, inR]; done)
    | (refine resB (Eq.trans ?_ (okRow a).symm); simp only [Nat.reduceAdd] at *; simp_all [okOp, noEdit, noNames, noTape, eqDs, eqD, inR]; omega)
    | skip
theorem xk38 : FOk Tryz.prog T 38 (spB1 okOp [.i .i64, .i .i64, .i .i64, .l 3, .i .i64, .i .i64, .i .i64, .i .i64, .i .i64, .s, .s, .i .i64, .s, .s, .i .i64, .i .i64, .l 94]) := by
  refine fok (env := envL [(33, spIn)]) (N := 81) tabT (envL_cons xk33 envL_nil) mixed Tryz.func38 rfl Tryz.call38 Tryz.ntmps38 ?_
  rintro args ⟨a, rfl⟩ hwf
  have wl : WfD T (.l 3) (.l (a.getD 3 default).rows) := hwf _ (List.mem_singleton_self _) (.sl false 3 (a.getD 3 default).rows) (List.mem_of_getElem? (show (rowC [.i .i64, .i .i64, .i .i64, .l 3, .i .i64, .i .i64, .i .i64, .i .i64, .i .i64, .s, .s, .i .i64, .s, .s, .i .i64, .i .i64, .l 94] a)[3]? = some _ from rfl))
  have hl : (a.getD 3 default).rows.length ≤ maxLen := wl.len
  clear wl
  refine ⟨by simp, ?_⟩
  clear hwf
  rw [Tryz.results38]
  repeat' first
    | (refine And.intro ?_ ?_)
    | (intro h; simp only [reduceCtorEq] at h; done)
    | (intro h; rw [h])
    | (intro h)
  all_goals first
    | (show lowEdges _ = true; kernel_rfl) | (show logOk _ _ = true; kernel_rfl) | exact True.intro | exact Or.inr rfl | exact Or.inl rfl
    | exact rfl
    | exact ⟨_, rfl⟩
    | exact ⟨_, _, _, rfl⟩
    | exact resB ((okOp_no1 (of_notT (by with_reducible assumption))).trans (okRow a).symm)
    | exact resB ((okOp_no2 (of_notT (by with_reducible assumption))).trans (okRow a).symm)
    | exact resB ((okOp_no3 (seen_no (by with_reducible assumption))).trans (okRow a).symm)
    | skip
  refine awp_loop (Q := _) [1, 25, 26, 27] [1] (fun n st => ∃ i : Nat, st = ([.ptr 1 1 0, argS 3 (a.getD 3 default).rows, .val false [.i .i64 (a.getD 3 default).rows.length], .val false [.i .i64 (i : Int)]], [(1, (rowC [.i .i64, .i .i64, .i .i64, .l 3, .i .i64, .i .i64, .i .i64, .i .i64, .i .i64, .s, .s, .i .i64, .s, .s, .i .i64, .i .i64, .l 94] a).map fun c => .val false [c])]) ∧ (∀ j, j < i → inR ((rAt (a.getD 3 default).rows j).getD 0 default).int 0 60 = true) ∧ i ≤ (a.getD 3 default).rows.length ∧ n = (a.getD 3 default).rows.length - i) ?_ ?_
  · exact ⟨rfl, (a.getD 3 default).rows.length, 0, rfl, nolt _, Nat.zero_le _, rfl⟩
  rintro n st ⟨i, rfl, hI, hle, rfl⟩
  repeat' first
    | (refine And.intro ?_ ?_)
    | (intro h; simp only [reduceCtorEq] at h; done)
    | (intro h; rw [h])
    | (intro h)
  all_goals first
    | (show lowEdges _ = true; kernel_rfl) | (show logOk _ _ = true; kernel_rfl) | exact True.intro | exact Or.inr rfl | exact Or.inl rfl
    | with_reducible exact Int.natCast_nonneg _
    | (have hi : i < (a.getD 3 default).rows.length := ltN (by with_reducible assumption)
       first
         | with_reducible exact of_decide_eq_true (by with_reducible assumption)
         | (show (Int.toNat (i : Int)) < _; rw [Int.toNat_natCast]; exact hi)
         | (show (i : Int) < _; omega)
           | exact ⟨_, rfl⟩
           | exact ⟨_, _, _, rfl⟩
           | exact resB ((okOp_no3 (seen_at hi (of_notT (by with_reducible assumption)))).trans (okRow a).symm)
           | (refine resB (Eq.trans ?_ (okRow a).symm); have hS := seen_yes hI hi (by with_reducible assumption); clear hI hle hi; simp only [Nat.reduceAdd] at *; simp_all [okOp, noEdit, noNames, noTape, eqDs, eqD, inR]; done)
           | (refine resB (Eq.trans ?_ (okRow a).symm); have hS := seen_yes hI hi (by with_reducible assumption); clear hI hle hi; simp only [Nat.reduceAdd] at *; simp_all [okOp, noEdit, noNames, noTape, eqDs, eqD, inR]; omega)
           | (refine ⟨(a.getD 3 default).rows.length - (i + 1), by omega, i + 1, ?_, all_succ hI (P := fun j => inR ((rAt (a.getD 3 default).rows j).getD 0 default).int 0 60) ?_, by omega, rfl⟩
              · exact congrArg (fun z : Int => (([.ptr 1 1 0, argS 3 (a.getD 3 default).rows, .val false [.i .i64 (a.getD 3 default).rows.length], .val false [.i .i64 z]], [(1, (rowC [.i .i64, .i .i64, .i .i64, .l 3, .i .i64, .i .i64, .i .i64, .i .i64, .i .i64, .s, .s, .i .i64, .s, .s, .i .i64, .i .i64, .l 94] a).map fun c => .val false [c])]) : Snap)) (wrapN hi hl)
              · exact of_notF (by with_reducible assumption)))
    | (have hi : ¬ i < (a.getD 3 default).rows.length := nltN (by with_reducible assumption)
       first
           | exact ⟨_, rfl⟩
           | exact ⟨_, _, _, rfl⟩
           | exact resB ((okOp_no3 (seen_at hi (of_notT (by with_reducible assumption)))).trans (okRow a).symm)
           | (refine resB (Eq.trans ?_ (okRow a).symm); have hS := seen_yes hI hi (by with_reducible assumption); clear hI hle hi; simp only [Nat.reduceAdd] at *; simp_all [okOp, noEdit, noNames, noTape, eqDs, eqD, inR]; done)
           | (refine resB (Eq.trans ?_ (okRow a).symm); have hS := seen_yes hI hi (by with_reducible assumption); clear hI hle hi; simp only [Nat.reduceAdd] at *; simp_all [okOp, noEdit, noNames, noTape, eqDs, eqD, inR]; omega)
           | (refine ⟨(a.getD 3 default).rows.length - (i + 1), by omega, i + 1, ?_, all_succ hI (P := fun j => inR ((rAt (a.getD 3 default).rows j).getD 0 default).int 0 60) ?_, by omega, rfl⟩
              · exact congrArg (fun z : Int => (([.ptr 1 1 0, argS 3 (a.getD 3 default).rows, .val false [.i .i64 (a.getD 3 default).rows.length], .val false [.i .i64 z]], [(1, (rowC [.i .i64, .i .i64, .i .i64, .l 3, .i .i64, .i .i64, .i .i64, .i .i64, .i .i64, .s, .s, .i .i64, .s, .s, .i .i64, .i .i64, .l 94] a).map fun c => .val false [c])]) : Snap)) (wrapN hi hl)
              · exact of_notF (by with_reducible assumption)))
    | (show Alive _ _; exact rfl)
    | exact absurd (show (!false) = false by with_reducible assumption) (by decide)
    | exact absurd (show (!true) = true by with_reducible assumption) (by decide)
    | skip
theorem plcRow (l : List (List D)) (b : List D) : plc l (csD (rowC [.i .i64, .i .i64, .i .i64, .l 3, .i .i64, .i .i64, .i .i64, .i .i64, .i .i64, .s, .s, .i .i64, .s, .s, .i .i64, .i .i64, .l 94] b)) = plc l b := rfl
theorem okRowW (r : List D) : okOp (csD [CV.i .i64 (r.getD 0 default).int, CV.i .i64 (r.getD (0 + 1) default).int, CV.i .i64 (r.getD (0 + 1 + 1) default).int, CV.sl false 3 (r.getD (0 + 1 + 1 + 1) default).rows, CV.i .i64 (r.getD (0 + 1 + 1 + 1 + 1) default).int, CV.i .i64 (r.getD (0 + 1 + 1 + 1 + 1 + 1) default).int, CV.i .i64 (r.getD (0 + 1 + 1 + 1 + 1 + 1 + 1) default).int, CV.i .i64 (r.getD (0 + 1 + 1 + 1 + 1 + 1 + 1 + 1) default).int, CV.i .i64 (r.getD (0 + 1 + 1 + 1 + 1 + 1 + 1 + 1 + 1) default).int, CV.s (r.getD (0 + 1 + 1 + 1 + 1 + 1 + 1 + 1 + 1 + 1) default).str, CV.s (r.getD (0 + 1 + 1 + 1 + 1 + 1 + 1 + 1 + 1 + 1 + 1) default).str, CV.i .i64 (r.getD (0 + 1 + 1 + 1 + 1 + 1 + 1 + 1 + 1 + 1 + 1 + 1) default).int, CV.s (r.getD (0 + 1 + 1 + 1 + 1 + 1 + 1 + 1 + 1 + 1 + 1 + 1 + 1) default).str, CV.s (r.getD (0 + 1 + 1 + 1 + 1 + 1 + 1 + 1 + 1 + 1 + 1 + 1 + 1 + 1) default).str, CV.i .i64 (r.getD (0 + 1 + 1 + 1 + 1 + 1 + 1 + 1 + 1 + 1 + 1 + 1 + 1 + 1 + 1) default).int, CV.i .i64 (r.getD (0 + 1 + 1 + 1 + 1 + 1 + 1 + 1 + 1 + 1 + 1 + 1 + 1 + 1 + 1 + 1) default).int, CV.sl false 94 (r.getD (0 + 1 + 1 + 1 + 1 + 1 + 1 + 1 + 1 + 1 + 1 + 1 + 1 + 1 + 1 + 1 + 1) default).rows]) = okOp r := rfl
theorem ltRowW (a b : List D) : opLt (csD [CV.i .i64 (a.getD 0 default).int, CV.i .i64 (a.getD (0 + 1) default).int, CV.i .i64 (a.getD (0 + 1 + 1) default).int, CV.sl false 3 (a.getD (0 + 1 + 1 + 1) default).rows, CV.i .i64 (a.getD (0 + 1 + 1 + 1 + 1) default).int, CV.i .i64 (a.getD (0 + 1 + 1 + 1 + 1 + 1) default).int, CV.i .i64 (a.getD (0 + 1 + 1 + 1 + 1 + 1 + 1) default).int, CV.i .i64 (a.getD (0 + 1 + 1 + 1 + 1 + 1 + 1 + 1) default).int, CV.i .i64 (a.getD (0 + 1 + 1 + 1 + 1 + 1 + 1 + 1 + 1) default).int, CV.s (a.getD (0 + 1 + 1 + 1 + 1 + 1 + 1 + 1 + 1 + 1) default).str, CV.s (a.getD (0 + 1 + 1 + 1 + 1 + 1 + 1 + 1 + 1 + 1 + 1) default).str, CV.i .i64 (a.getD (0 + 1 + 1 + 1 + 1 + 1 + 1 + 1 + 1 + 1 + 1 + 1) default).int, CV.s (a.getD (0 + 1 + 1 + 1 + 1 + 1 + 1 + 1 + 1 + 1 + 1 + 1 + 1) default).str, CV.s (a.getD (0 + 1 + 1 + 1 + 1 + 1 + 1 + 1 + 1 + 1 + 1 + 1 + 1 + 1) default).str, CV.i .i64 (a.getD (0 + 1 + 1 + 1 + 1 + 1 + 1 + 1 + 1 + 1 + 1 + 1 + 1 + 1 + 1) default).int, CV.i .i64 (a.getD (0 + 1 + 1 + 1 + 1 + 1 + 1 + 1 + 1 + 1 + 1 + 1 + 1 + 1 + 1 + 1) default).int, CV.sl false 94 (a.getD (0 + 1 + 1 + 1 + 1 + 1 + 1 + 1 + 1 + 1 + 1 + 1 + 1 + 1 + 1 + 1 + 1) default).rows]) (csD [CV.i .i64 (b.getD 0 default).int, CV.i .i64 (b.getD (0 + 1) default).int, CV.i .i64 (b.getD (0 + 1 + 1) default).int, CV.sl false 3 (b.getD (0 + 1 + 1 + 1) default).rows, CV.i .i64 (b.getD (0 + 1 + 1 + 1 + 1) default).int, CV.i .i64 (b.getD (0 + 1 + 1 + 1 + 1 + 1) default).int, CV.i .i64 (b.getD (0 + 1 + 1 + 1 + 1 + 1 + 1) default).int, CV.i .i64 (b.getD (0 + 1 + 1 + 1 + 1 + 1 + 1 + 1) default).int, CV.i .i64 (b.getD (0 + 1 + 1 + 1 + 1 + 1 + 1 + 1 + 1) default).int, CV.s (b.getD (0 + 1 + 1 + 1 + 1 + 1 + 1 + 1 + 1 + 1) default).str, CV.s (b.getD (0 + 1 + 1 + 1 + 1 + 1 + 1 + 1 + 1 + 1 + 1) default).str, CV.i .i64 (b.getD (0 + 1 + 1 + 1 + 1 + 1 + 1 + 1 + 1 + 1 + 1 + 1) default).int, CV.s (b.getD (0 + 1 + 1 + 1 + 1 + 1 + 1 + 1 + 1 + 1 + 1 + 1 + 1) default).str, CV.s (b.getD (0 + 1 + 1 + 1 + 1 + 1 + 1 + 1 + 1 + 1 + 1 + 1 + 1 + 1) default).str, CV.i .i64 (b.getD (0 + 1 + 1 + 1 + 1 + 1 + 1 + 1 + 1 + 1 + 1 + 1 + 1 + 1 + 1) default).int, CV.i .i64 (b.getD (0 + 1 + 1 + 1 + 1 + 1 + 1 + 1 + 1 + 1 + 1 + 1 + 1 + 1 + 1 + 1) default).int, CV.sl false 94 (b.getD (0 + 1 + 1 + 1 + 1 + 1 + 1 + 1 + 1 + 1 + 1 + 1 + 1 + 1 + 1 + 1 + 1) default).rows]) = opLt a b := rfl
theorem xk27 : FOk Tryz.prog T 27 (spPlc 54 [.i .i64, .i .i64, .i .i64, .l 3, .i .i64, .i .i64, .i .i64, .i .i64, .i .i64, .s, .s, .i .i64, .s, .s, .i .i64, .i .i64, .l 94]) := by
  refine fok (env := envL []) (N := 31) tabT envL_nil mixed Tryz.func27 rfl Tryz.call27 Tryz.ntmps27 ?_
  rintro args ⟨l, r, rfl⟩ hwf
  have hl : l.length ≤ maxLen := (show WfD T (.l 54) (.l l) from arg0 hwf (List.mem_cons_self ..)).len
  refine ⟨by simp, ?_⟩
  clear hwf
  rw [Tryz.results27]
  repeat' first
    | (refine And.intro ?_ ?_)
    | (intro h; simp only [reduceCtorEq] at h; done)
    | (intro h; rw [h])
    | (intro h)
  all_goals first
    | (show lowEdges _ = true; kernel_rfl) | (show logOk _ _ = true; kernel_rfl) | exact True.intro | exact Or.inr rfl | exact Or.inl rfl
    | skip
  refine awp_loop (Q := _) [0, 3, 5] [3] (fun n st => ∃ i : Nat, st = ([argS 54 l, .ptr 3 1 0, .val false [.i .i64 (i : Int)]], [(1, (rowC [.i .i64, .i .i64, .i .i64, .l 3, .i .i64, .i .i64, .i .i64, .i .i64, .i .i64, .s, .s, .i .i64, .s, .s, .i .i64, .i .i64, .l 94] r).map fun c => .val false [c])]) ∧ (∀ j, j < i → (!opSame (rAt l j) r) = true) ∧ i ≤ l.length ∧ n = l.length - i) ?_ ?_
  · exact ⟨rfl, l.length, 0, rfl, nolt _, Nat.zero_le _, rfl⟩
  rintro n st ⟨i, rfl, hI, hle, rfl⟩
  repeat' first
    | (refine And.intro ?_ ?_)
    | (intro h; simp only [reduceCtorEq] at h; done)
    | (intro h; rw [h])
    | (intro h)
  all_goals first
    | (show lowEdges _ = true; kernel_rfl) | (show logOk _ _ = true; kernel_rfl) | exact True.intro | exact Or.inr rfl | exact Or.inl rfl
    | with_reducible exact Int.natCast_nonneg _
    | (have hi : i < l.length := ltN (by with_reducible assumption)
       first
         | with_reducible exact of_decide_eq_true (by with_reducible assumption)
         | (show (Int.toNat (i : Int)) < _; rw [Int.toNat_natCast]; exact hi)
         | (show (i : Int) < _; omega)
           | exact ⟨_, rfl⟩
           | exact ⟨_, _, _, rfl⟩
           | exact resI ((plc_none hI hi).trans (plcRow l r).symm)
           | (refine resI ((plc_stop hi hI ?_).trans (plcRow l r).symm); simp only [Nat.reduceAdd] at *; show _ = _; unfold opSame kT kB; simp_all; done)
           | (refine ⟨l.length - (i + 1), by omega, i + 1, ?_, all_succ hI (P := fun j => (!opSame (rAt l j) r)) ?_, by omega, rfl⟩
              · exact congrArg (fun z : Int => (([argS 54 l, .ptr 3 1 0, .val false [.i .i64 z]], [(1, (rowC [.i .i64, .i .i64, .i .i64, .l 3, .i .i64, .i .i64, .i .i64, .i .i64, .i .i64, .s, .s, .i .i64, .s, .s, .i .i64, .i .i64, .l 94] r).map fun c => .val false [c])]) : Snap)) (wrapN hi hl)
              · simp only [Nat.reduceAdd] at *; show _ = _; unfold opSame kT kB; simp_all; done))
    | (have hi : ¬ i < l.length := nltN (by with_reducible assumption)
       first
           | exact ⟨_, rfl⟩
           | exact ⟨_, _, _, rfl⟩
           | exact resI ((plc_none hI hi).trans (plcRow l r).symm)
           | (refine resI ((plc_stop hi hI ?_).trans (plcRow l r).symm); simp only [Nat.reduceAdd] at *; show _ = _; unfold opSame kT kB; simp_all; done)
           | (refine ⟨l.length - (i + 1), by omega, i + 1, ?_, all_succ hI (P := fun j => (!opSame (rAt l j) r)) ?_, by omega, rfl⟩
              · exact congrArg (fun z : Int => (([argS 54 l, .ptr 3 1 0, .val false [.i .i64 z]], [(1, (rowC [.i .i64, .i .i64, .i .i64, .l 3, .i .i64, .i .i64, .i .i64, .i .i64, .i .i64, .s, .s, .i .i64, .s, .s, .i .i64, .i .i64, .l 94] r).map fun c => .val false [c])]) : Snap)) (wrapN hi hl)
              · simp only [Nat.reduceAdd] at *; show _ = _; unfold opSame kT kB; simp_all; done))
    | (show Alive _ _; exact rfl)
    | exact absurd (show (!false) = false by with_reducible assumption) (by decide)
    | exact absurd (show (!true) = true by with_reducible assumption) (by decide)
    | skip
theorem xk16 : FOk Tryz.prog T 16 (spBL okLog 54) := by
  refine fok (env := envL [(31, (spB1 okOp [.i .i64, .i .i64, .i .i64, .l 3, .i .i64, .i .i64, .i .i64, .i .i64, .i .i64, .s, .s, .i .i64, .s, .s, .i .i64, .i .i64, .l 94])), (28, (spB2 opLt [.i .i64, .i .i64, .i .i64, .l 3, .i .i64, .i .i64, .i .i64, .i .i64, .i .i64, .s, .s, .i .i64, .s, .s, .i .i64, .i .i64, .l 94]))]) (N := 36) tabT (envL_cons xk31 (envL_cons xk28 envL_nil)) mixed Tryz.func16 rfl Tryz.call16 Tryz.ntmps16 ?_
  rintro args ⟨l, rfl⟩ hwf
  have hl : l.length ≤ maxLen := (show WfD T (.l 54) (.l l) from arg0 hwf (List.mem_cons_self ..)).len
  refine ⟨by simp, ?_⟩
  clear hwf
  rw [Tryz.results16]
  repeat' first
    | (refine And.intro ?_ ?_)
    | (intro h; simp only [reduceCtorEq] at h; done)
    | (intro h; rw [h])
    | (intro h)
  all_goals first
    | (show lowEdges _ = true; kernel_rfl) | (show logOk _ _ = true; kernel_rfl) | exact True.intro | exact Or.inr rfl | exact Or.inl rfl
    | skip
  refine awp_loop (Q := _) [0, 3] [] (fun n st => ∃ i : Nat, st = ([argS 54 l, .val false [.i .i64 (i : Int)]], []) ∧ (∀ j, j < i → okAt l j = true) ∧ i ≤ l.length ∧ n = l.length - i) ?_ ?_
  · exact ⟨rfl, l.length, 0, rfl, nolt _, Nat.zero_le _, rfl⟩
  rintro n st ⟨i, rfl, hI, hle, rfl⟩
  repeat' first
    | (refine And.intro ?_ ?_)
    | (intro h; simp only [reduceCtorEq] at h; done)
    | (intro h; rw [h])
    | (intro h)
  all_goals (try simp only [okRowW, ltRowW] at *)
  all_goals first
    | (show lowEdges _ = true; kernel_rfl) | (show logOk _ _ = true; kernel_rfl) | exact True.intro | exact Or.inr rfl | exact Or.inl rfl
    | with_reducible exact Int.natCast_nonneg _
    | (have hi : i < l.length := ltN (by with_reducible assumption)
       first
         | with_reducible exact of_decide_eq_true (by with_reducible assumption)
         | (show (Int.toNat (i : Int)) < _; rw [Int.toNat_natCast]; exact hi)
         | (show (i : Int) < _; omega)
           | exact Or.inr trivial
           | exact ⟨_, rfl⟩
           | exact ⟨_, _, rfl⟩
           | (rw [wrapP1 (by with_reducible assumption) hi hl]; omega)
           | exact resB (okLog_end hI hi)
           | exact resB (okLog_no hi (okAt_no1 (of_notT (by with_reducible assumption))))
           | (rw [wrapP1 (by with_reducible assumption) hi hl] at *; exact resB (okLog_no hi (okAt_no2 (by with_reducible assumption) (of_notT (by with_reducible assumption)))))
           | (refine ⟨l.length - (i + 1), by omega, i + 1, ?_, all_succ hI (P := fun j => okAt l j) ?_, by omega, rfl⟩
              · exact congrArg (fun z : Int => (([argS 54 l, .val false [.i .i64 z]], []) : Snap)) (wrapN hi hl)
              · first | exact okAt_yes0 (of_notF (by with_reducible assumption)) (by with_reducible assumption) | (rw [wrapP1 (by with_reducible assumption) hi hl] at *; exact okAt_yes1 (of_notF (by with_reducible assumption)) (of_notF (by with_reducible assumption)))))
    | (have hi : ¬ i < l.length := nltN (by with_reducible assumption)
       first
           | exact Or.inr trivial
           | exact ⟨_, rfl⟩
           | exact ⟨_, _, rfl⟩
           | (rw [wrapP1 (by with_reducible assumption) hi hl]; omega)
           | exact resB (okLog_end hI hi)
           | exact resB (okLog_no hi (okAt_no1 (of_notT (by with_reducible assumption))))
           | (rw [wrapP1 (by with_reducible assumption) hi hl] at *; exact resB (okLog_no hi (okAt_no2 (by with_reducible assumption) (of_notT (by with_reducible assumption)))))
           | (refine ⟨l.length - (i + 1), by omega, i + 1, ?_, all_succ hI (P := fun j => okAt l j) ?_, by omega, rfl⟩
              · exact congrArg (fun z : Int => (([argS 54 l, .val false [.i .i64 z]], []) : Snap)) (wrapN hi hl)
              · first | exact okAt_yes0 (of_notF (by with_reducible assumption)) (by with_reducible assumption) | (rw [wrapP1 (by with_reducible assumption) hi hl] at *; exact okAt_yes1 (of_notF (by with_reducible assumption)) (of_notF (by with_reducible assumption)))))
    | (show Alive _ _; exact rfl)
    | exact absurd (show (!false) = false by with_reducible assumption) (by decide)
    | exact absurd (show (!true) = true by with_reducible assumption) (by decide)
    | skip
theorem xk20 : FOk Tryz.prog T 20 (spBL okLog 54) := by
  refine fok (env := envL [(38, (spB1 okOp [.i .i64, .i .i64, .i .i64, .l 3, .i .i64, .i .i64, .i .i64, .i .i64, .i .i64, .s, .s, .i .i64, .s, .s, .i .i64, .i .i64, .l 94])), (37, (spB2 opLt [.i .i64, .i .i64, .i .i64, .l 3, .i .i64, .i .i64, .i .i64, .i .i64, .i .i64, .s, .s, .i .i64, .s, .s, .i .i64, .i .i64, .l 94]))]) (N := 33) tabT (envL_cons xk38 (envL_cons xk37 envL_nil)) mixed Tryz.func20 rfl Tryz.call20 Tryz.ntmps20 ?_
  rintro args ⟨l, rfl⟩ hwf
  have hl : l.length ≤ maxLen := (show WfD T (.l 54) (.l l) from arg0 hwf (List.mem_cons_self ..)).len
  refine ⟨by simp, ?_⟩
  clear hwf
  rw [Tryz.results20]
  repeat' first
    | (refine And.intro ?_ ?_)
    | (intro h; simp only [reduceCtorEq] at h; done)
    | (intro h; rw [h])
    | (intro h)
  all_goals first
    | (show lowEdges _ = true; kernel_rfl) | (show logOk _ _ = true; kernel_rfl) | exact True.intro | exact Or.inr rfl | exact Or.inl rfl
    | skip
  refine awp_loop (Q := _) [0, 5, 6, 7] [] (fun n st => ∃ i : Nat, st = ([argS 54 l, argS 54 l, .val false [.i .i64 l.length], .val false [.i .i64 (i : Int)]], []) ∧ (∀ j, j < i → okAt l j = true) ∧ i ≤ l.length ∧ n = l.length - i) ?_ ?_
  · exact ⟨rfl, l.length, 0, rfl, nolt _, Nat.zero_le _, rfl⟩
  rintro n st ⟨i, rfl, hI, hle, rfl⟩
  repeat' first
    | (refine And.intro ?_ ?_)
    | (intro h; simp only [reduceCtorEq] at h; done)
    | (intro h; rw [h])
    | (intro h)
  all_goals (try simp only [okRowW, ltRowW] at *)
  all_goals first
    | (show lowEdges _ = true; kernel_rfl) | (show logOk _ _ = true; kernel_rfl) | exact True.intro | exact Or.inr rfl | exact Or.inl rfl
    | with_reducible exact Int.natCast_nonneg _
    | (have hi : i < l.length := ltN (by with_reducible assumption)
       first
         | with_reducible exact of_decide_eq_true (by with_reducible assumption)
         | (show (Int.toNat (i : Int)) < _; rw [Int.toNat_natCast]; exact hi)
         | (show (i : Int) < _; omega)
           | exact Or.inr trivial
           | exact ⟨_, rfl⟩
           | exact ⟨_, _, rfl⟩
           | (rw [wrapP1 (by with_reducible assumption) hi hl]; omega)
           | exact resB (okLog_end hI hi)
           | exact resB (okLog_no hi (okAt_no1 (of_notT (by with_reducible assumption))))
           | (rw [wrapP1 (by with_reducible assumption) hi hl] at *; exact resB (okLog_no hi (okAt_no2 (by with_reducible assumption) (of_notT (by with_reducible assumption)))))
           | (refine ⟨l.length - (i + 1), by omega, i + 1, ?_, all_succ hI (P := fun j => okAt l j) ?_, by omega, rfl⟩
              · exact congrArg (fun z : Int => (([argS 54 l, argS 54 l, .val false [.i .i64 l.length], .val false [.i .i64 z]], []) : Snap)) (wrapN hi hl)
              · first | exact okAt_yes0 (of_notF (by with_reducible assumption)) (by with_reducible assumption) | (rw [wrapP1 (by with_reducible assumption) hi hl] at *; exact okAt_yes1 (of_notF (by with_reducible assumption)) (of_notF (by with_reducible assumption)))))
    | (have hi : ¬ i < l.length := nltN (by with_reducible assumption)
       first
           | exact Or.inr trivial
           | exact ⟨_, rfl⟩
           | exact ⟨_, _, rfl⟩
           | (rw [wrapP1 (by with_reducible assumption) hi hl]; omega)
           | exact resB (okLog_end hI hi)
           | exact resB (okLog_no hi (okAt_no1 (of_notT (by with_reducible assumption))))
           | (rw [wrapP1 (by with_reducible assumption) hi hl] at *; exact resB (okLog_no hi (okAt_no2 (by with_reducible assumption) (of_notT (by with_reducible assumption)))))
           | (refine ⟨l.length - (i + 1), by omega, i + 1, ?_, all_succ hI (P := fun j => okAt l j) ?_, by omega, rfl⟩
              · exact congrArg (fun z : Int => (([argS 54 l, argS 54 l, .val false [.i .i64 l.length], .val false [.i .i64 z]], []) : Snap)) (wrapN hi hl)
              · first | exact okAt_yes0 (of_notF (by with_reducible assumption)) (by with_reducible assumption) | (rw [wrapP1 (by with_reducible assumption) hi hl] at *; exact okAt_yes1 (of_notF (by with_reducible assumption)) (of_notF (by with_reducible assumption)))))
    | (show Alive _ _; exact rfl)
    | exact absurd (show (!false) = false by with_reducible assumption) (by decide)
    | exact absurd (show (!true) = true by with_reducible assumption) (by decide)
    | skip
theorem xk14 : FOk Tryz.prog T 14 (spRep 54) := by
  refine fok (env := envL [(30, spIn), (16, (spBL okLog 54))]) (N := 11) tabT (envL_cons xk30 (envL_cons xk16 envL_nil)) mixed Tryz.func14 rfl Tryz.call14 Tryz.ntmps14 ?_
  rintro args ⟨id, l, rfl⟩ hwf
  refine ⟨by simp, ?_⟩
  clear hwf
  rw [Tryz.results14]
  repeat' first
    | (refine And.intro ?_ ?_)
    | (intro h; simp only [reduceCtorEq] at h; done)
    | (intro h; rw [h])
    | (intro h)
  all_goals first
    | (show lowEdges _ = true; kernel_rfl) | (show logOk _ _ = true; kernel_rfl) | exact True.intro | exact Or.inr rfl | exact Or.inl rfl
    | exact rfl
    | exact ⟨_, rfl⟩
    | exact ⟨_, _, _, rfl⟩
    | (refine resB ?_; unfold okRep; simp_all only [Bool.not_eq_true', Bool.not_eq_false', Bool.not_true, Bool.not_false, Bool.or_true, Bool.true_or, Bool.or_false, Bool.false_or, Bool.and_true, Bool.true_and, Bool.and_false, Bool.false_and, Bool.not_not]; done)
    | skip
theorem xk18 : FOk Tryz.prog T 18 (spRep 54) := by
  refine fok (env := envL [(33, spIn), (20, (spBL okLog 54))]) (N := 11) tabT (envL_cons xk33 (envL_cons xk20 envL_nil)) mixed Tryz.func18 rfl Tryz.call18 Tryz.ntmps18 ?_
  rintro args ⟨id, l, rfl⟩ hwf
  refine ⟨by simp, ?_⟩
  clear hwf
  rw [Tryz.results18]
  repeat' first
    | (refine And.intro ?_ ?_)
    | (intro h; simp only [reduceCtorEq] at h; done)
    | (intro h; rw [h])
    | (intro h)
  all_goals first
    | (show lowEdges _ = true; kernel_rfl) | (show logOk _ _ = true; kernel_rfl) | exact True.intro | exact Or.inr rfl | exact Or.inl rfl
    | exact rfl
    | exact ⟨_, rfl⟩
    | exact ⟨_, _, _, rfl⟩
    | (refine resB ?_; unfold okRep; simp_all only [Bool.not_eq_true', Bool.not_eq_false', Bool.not_true, Bool.not_false, Bool.or_true, Bool.true_or, Bool.or_false, Bool.false_or, Bool.and_true, Bool.true_and, Bool.and_false, Bool.false_and, Bool.not_not]; done)
    | skip
end Go.Proofs.YtaecbmjmcpdgdaaGreat.Ab
