/- The law's functions that look whether marks are held: printed by a program of this claim. -/
import Derived.Test.YtidjlboppokloaaMh
import Derived.IntWalk
namespace Go.Proofs.Ytidjlboppokloaa.Ab
open Go.RowKit
set_option linter.unusedVariables false
set_option linter.unusedSimpArgs false
set_option maxRecDepth 100000
set_option maxHeartbeats 2000000
/-- laws.heldEditS -/
theorem hd103n (mt : Int → ByteArray) (hmt : FOk Try.prog T 48 (spMT mt)) (n : Nat) : FOk Try.prog T 103 (spHdn mt 148 n) := by
  refine fok (env := envL [(48, (spMT mt))]) (N := 93) tabT (envL_cons hmt envL_nil) mixed Try.func103 rfl Try.call103 Try.ntmps103 ?_
  rintro args ⟨rows, k, h1, h2, wf, hwn, rfl⟩ hwf
  clear hwf
  have hs := wf.short
  refine ⟨by simp, ?_⟩
  rw [Try.results103]
  repeat' first
    | (refine And.intro ?_ ?_)
    | (intro h; simp only [reduceCtorEq] at h; done)
    | (intro h)
  all_goals first
    | (show lowEdges _ = true; kernel_rfl) | (show logOk _ _ = true; kernel_rfl) | exact True.intro | exact Or.inr rfl | exact Or.inl rfl
    | skip
  refine awp_loop (Q := _) [0, 1, 5] [] (fun m st => ∃ j : Nat, st = ([argS 148 (mkRows mt k rows), .val false [.i .i64 (k + cRows (rows.take j))], .val false [.i .i64 (j : Int)]], []) ∧ j ≤ rows.length ∧ m = rows.length - j) ?_ ?_
  · refine ⟨rfl, rows.length, 0, ?_, Nat.zero_le _, rfl⟩
    exact congrArg (fun z : Int => (([argS 148 (mkRows mt k rows), .val false [.i .i64 z], .val false [.i .i64 0]], []) : Snap)) (show k = k + ((0 : Nat) : Int) by omega)
  rintro m st ⟨j, rfl, hj, rfl⟩
  have hml := mkRows_length (mt := mt) rows k
  by_cases hge : rows.length ≤ j
  · have ht : rows.take j = rows := List.take_of_length_le (by omega)
    repeat' first
      | (refine And.intro ?_ ?_)
      | (intro h; simp only [reduceCtorEq] at h; done)
      | (intro h; exact absurd (of_decide_eq_true h) (by rw [hml]; omega))
      | (intro h)
    all_goals first
      | (show lowEdges _ = true; kernel_rfl) | (show logOk _ _ = true; kernel_rfl) | exact True.intro | exact Or.inr rfl | exact Or.inl rfl
      | exact rfl
      | exact congrArg (fun z : Int => [CV.i .i64 z]) (by rw [ht, cRows_mk])
      | skip
  have hlt : j < rows.length := by omega
  obtain ⟨x0, r0, hr, hr0⟩ := WfRow.int_ (wf.at_ (show T 148 = some _ from rfl) hlt)
  obtain ⟨x1, r1, rfl, hr1⟩ := WfRow.int_ hr0
  obtain ⟨x2, r2, rfl, hr2⟩ := WfRow.int_ hr1
  obtain ⟨x3, r3, rfl, hr3⟩ := WfRow.int_ hr2
  obtain ⟨x4, r4, rfl, hr4⟩ := WfRow.int_ hr3
  obtain ⟨x5, r5, rfl, hr5⟩ := WfRow.str_ hr4
  obtain ⟨x6, r6, rfl, hr6⟩ := WfRow.str_ hr5
  obtain ⟨x7, r7, rfl, hr7⟩ := WfRow.int_ hr6
  obtain rfl := hr7.end_
  clear hr7
  have hrow := mkRows_row (mt := mt) (k := k) hlt
  rw [hr] at hrow
  have hc := cRows_next hlt
  have hc2 := cRows_le rows (j + 1)
  rw [hr] at hc
  have hc3 : cRow [.i x0, .i x1, .i x2, .i x3, .i x4, .s x5, .s x6, .i x7] = 1 + (1 + (1 + (1 + (1 + (1 + (1 + (1 + 0))))))) := rfl
  rw [hc3] at hc
  obtain ⟨q, hq⟩ : ∃ q, (k + cRows (rows.take j)) = q := ⟨_, rfl⟩
  have hnext : k + (cRows (rows.take (j + 1)) : Int) = q + 1 + 1 + 1 + 1 + 1 + 1 + 1 + 1 := by omega
  have hq1 : 1 ≤ q := by omega
  have hq2 : q + 1 + 1 + 1 + 1 + 1 + 1 + 1 + 1 ≤ 4611686018427387904 := by omega
  rw [hq] at hrow
  have hM : (mkRows mt k rows).getD (Int.toNat (j : Int)) [] = [.i (q), .i (q + 1), .i (q + 1 + 1), .i (q + 1 + 1 + 1), .i (q + 1 + 1 + 1 + 1), .s (mt (q + 1 + 1 + 1 + 1 + 1)), .s (mt (q + 1 + 1 + 1 + 1 + 1 + 1)), .i (q + 1 + 1 + 1 + 1 + 1 + 1 + 1)] := hrow
  simp only [hq]
  clear hrow hc hc2 hc3
  have hw0 : IntKind.i64.wrap (q + 1) = q + 1 := IntWalk.i64_in _ (by omega)
  have hw1 : IntKind.i64.wrap (q + 1 + 1) = q + 1 + 1 := IntWalk.i64_in _ (by omega)
  have hw2 : IntKind.i64.wrap (q + 1 + 1 + 1) = q + 1 + 1 + 1 := IntWalk.i64_in _ (by omega)
  have hw3 : IntKind.i64.wrap (q + 1 + 1 + 1 + 1) = q + 1 + 1 + 1 + 1 := IntWalk.i64_in _ (by omega)
  have hw4 : IntKind.i64.wrap (q + 1 + 1 + 1 + 1 + 1) = q + 1 + 1 + 1 + 1 + 1 := IntWalk.i64_in _ (by omega)
  have hw5 : IntKind.i64.wrap (q + 1 + 1 + 1 + 1 + 1 + 1) = q + 1 + 1 + 1 + 1 + 1 + 1 := IntWalk.i64_in _ (by omega)
  have hw6 : IntKind.i64.wrap (q + 1 + 1 + 1 + 1 + 1 + 1 + 1) = q + 1 + 1 + 1 + 1 + 1 + 1 + 1 := IntWalk.i64_in _ (by omega)
  have hw7 : IntKind.i64.wrap (q + 1 + 1 + 1 + 1 + 1 + 1 + 1 + 1) = q + 1 + 1 + 1 + 1 + 1 + 1 + 1 + 1 := IntWalk.i64_in _ (by omega)
  repeat' first
    | (refine And.intro ?_ ?_)
    | (rw [hM])
    | (intro h; simp only [reduceCtorEq] at h; done)
    | (rw [hw0])
    | (rw [hw1])
    | (rw [hw2])
    | (rw [hw3])
    | (rw [hw4])
    | (rw [hw5])
    | (rw [hw6])
    | (rw [hw7])
    | (intro h; exact hdS h)
    | (intro h; exact hdZ rfl h)
    | (intro h; exact absurd (of_decide_eq_true h) (by omega))
    | (intro h; exact absurd (of_decide_eq_false h) (by rw [hml]; omega))
    | (intro h)
  all_goals first
    | (show lowEdges _ = true; kernel_rfl) | (show logOk _ _ = true; kernel_rfl) | exact True.intro | exact Or.inr rfl | exact Or.inl rfl
    | exact rfl
    | with_reducible exact Int.natCast_nonneg _
    | (show (j : Int) < (((mkRows mt k rows)).length : Int); rw [hml]; omega)
    | (show (Int.toNat (j : Int)) < _; rw [hml, Int.toNat_natCast]; exact hlt)
    | exact ⟨_, by omega, by omega, rfl⟩
    | (refine ⟨rows.length - (j + 1), by omega, j + 1, ?_, by omega, rfl⟩
       exact snapRZ2 (f := fun y z => (([argS 148 (mkRows mt k rows), .val false [.i .i64 y], .val false [.i .i64 z]], []) : Snap)) (by first | exact hnext.symm | omega) (wrapJ hlt hs))
    | skip
theorem hd103 (mt : Int → ByteArray) (hmt : FOk Try.prog T 48 (spMT mt)) : FOk Try.prog T 103 (spHd mt 148) := FOk.held (hd103n mt hmt)
/-- laws.heldNodeS -/
theorem hd76n (mt : Int → ByteArray) (hmt : FOk Try.prog T 48 (spMT mt)) (n : Nat) : FOk Try.prog T 76 (spHdn mt 95 n) := by
  refine fok (env := envL [(103, (spHd mt 148))]) (N := 40) tabT (envL_cons (hd103 mt hmt) envL_nil) mixed Try.func76 rfl Try.call76 Try.ntmps76 ?_
  rintro args ⟨rows, k, h1, h2, wf, hwn, rfl⟩ hwf
  clear hwf
  have hs := wf.short
  refine ⟨by simp, ?_⟩
  rw [Try.results76]
  repeat' first
    | (refine And.intro ?_ ?_)
    | (intro h; simp only [reduceCtorEq] at h; done)
    | (intro h)
  all_goals first
    | (show lowEdges _ = true; kernel_rfl) | (show logOk _ _ = true; kernel_rfl) | exact True.intro | exact Or.inr rfl | exact Or.inl rfl
    | skip
  refine awp_loop (Q := _) [0, 1, 5] [] (fun m st => ∃ j : Nat, st = ([argS 95 (mkRows mt k rows), .val false [.i .i64 (k + cRows (rows.take j))], .val false [.i .i64 (j : Int)]], []) ∧ j ≤ rows.length ∧ m = rows.length - j) ?_ ?_
  · refine ⟨rfl, rows.length, 0, ?_, Nat.zero_le _, rfl⟩
    exact congrArg (fun z : Int => (([argS 95 (mkRows mt k rows), .val false [.i .i64 z], .val false [.i .i64 0]], []) : Snap)) (show k = k + ((0 : Nat) : Int) by omega)
  rintro m st ⟨j, rfl, hj, rfl⟩
  have hml := mkRows_length (mt := mt) rows k
  by_cases hge : rows.length ≤ j
  · have ht : rows.take j = rows := List.take_of_length_le (by omega)
    repeat' first
      | (refine And.intro ?_ ?_)
      | (intro h; simp only [reduceCtorEq] at h; done)
      | (intro h; exact absurd (of_decide_eq_true h) (by rw [hml]; omega))
      | (intro h)
    all_goals first
      | (show lowEdges _ = true; kernel_rfl) | (show logOk _ _ = true; kernel_rfl) | exact True.intro | exact Or.inr rfl | exact Or.inl rfl
      | exact rfl
      | exact congrArg (fun z : Int => [CV.i .i64 z]) (by rw [ht, cRows_mk])
      | skip
  have hlt : j < rows.length := by omega
  obtain ⟨x0, r0, hr, hr0⟩ := WfRow.int_ (wf.at_ (show T 95 = some _ from rfl) hlt)
  obtain ⟨x1, r1, rfl, wf1, hr1⟩ := WfRow.slW hr0
  obtain ⟨x2, r2, rfl, wf2, hr2⟩ := WfRow.slW hr1
  obtain rfl := hr2.end_
  clear hr2
  have hrow := mkRows_row (mt := mt) (k := k) hlt
  rw [hr] at hrow
  have hm1 : wD (.l x1) < wD (.l rows) := wD_part hlt (j := 1) (by rw [hr]; rfl)
  have hm2 : wD (.l x2) < wD (.l rows) := wD_part hlt (j := 2) (by rw [hr]; rfl)
  have hc := cRows_next hlt
  have hc2 := cRows_le rows (j + 1)
  rw [hr] at hc
  have hc3 : cRow [.i x0, .l x1, .l x2] = 1 + (cRows x1 + (cRows x2 + 0)) := rfl
  rw [hc3] at hc
  obtain ⟨q, hq⟩ : ∃ q, (k + cRows (rows.take j)) = q := ⟨_, rfl⟩
  have hnext : k + (cRows (rows.take (j + 1)) : Int) = q + 1 + cRows x1 + cRows x2 := by omega
  have hq1 : 1 ≤ q := by omega
  have hq2 : q + 1 + cRows x1 + cRows x2 ≤ 4611686018427387904 := by omega
  rw [hq] at hrow
  have hM : (mkRows mt k rows).getD (Int.toNat (j : Int)) [] = [.i (q), .l (mkRows mt (q + 1) x1), .l (mkRows mt (q + 1 + cRows x1) x2)] := hrow
  simp only [hq]
  clear hrow hc hc2 hc3
  have hw0 : IntKind.i64.wrap (q + 1) = q + 1 := IntWalk.i64_in _ (by omega)
  have hx1 : cRows (([.i (q), .l (mkRows mt (q + 1) x1), .l (mkRows mt (q + 1 + cRows x1) x2)] : List D).getD 1 default).rows = cRows x1 := cRows_mk _ _
  have hx2 : cRows (([.i (q), .l (mkRows mt (q + 1) x1), .l (mkRows mt (q + 1 + cRows x1) x2)] : List D).getD 2 default).rows = cRows x2 := cRows_mk _ _
  repeat' first
    | (refine And.intro ?_ ?_)
    | (rw [hM])
    | (intro h; simp only [reduceCtorEq] at h; done)
    | (rw [hw0])
    | (rw [hx1])
    | (rw [hx2])
    | (intro h; exact hdS h)
    | (intro h; exact hdZ rfl h)
    | (intro h; exact absurd (of_decide_eq_true h) (by omega))
    | (intro h; exact absurd (of_decide_eq_false h) (by rw [hml]; omega))
    | (intro h)
  all_goals first
    | (show lowEdges _ = true; kernel_rfl) | (show logOk _ _ = true; kernel_rfl) | exact True.intro | exact Or.inr rfl | exact Or.inl rfl
    | exact rfl
    | with_reducible exact Int.natCast_nonneg _
    | (show (j : Int) < (((mkRows mt k rows)).length : Int); rw [hml]; omega)
    | (show (Int.toNat (j : Int)) < _; rw [hml, Int.toNat_natCast]; exact hlt)
    | exact ⟨_, by omega, by omega, rfl⟩
    | exact ⟨x1, q + 1, by omega, by omega, wf1, rfl⟩
    | exact ⟨x2, q + 1 + cRows x1, by omega, by omega, wf2, rfl⟩
    | (refine ⟨rows.length - (j + 1), by omega, j + 1, ?_, by omega, rfl⟩
       exact snapRZ2 (f := fun y z => (([argS 95 (mkRows mt k rows), .val false [.i .i64 y], .val false [.i .i64 z]], []) : Snap)) (by first | exact hnext.symm | omega) (wrapJ hlt hs))
    | skip
theorem hd76 (mt : Int → ByteArray) (hmt : FOk Try.prog T 48 (spMT mt)) : FOk Try.prog T 76 (spHd mt 95) := FOk.held (hd76n mt hmt)
end Go.Proofs.Ytidjlboppokloaa.Ab
