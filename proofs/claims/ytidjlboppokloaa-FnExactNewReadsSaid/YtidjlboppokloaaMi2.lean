/- The law's functions that look whether marks are held: printed by a program of this claim. -/
import Derived.Test.YtidjlboppokloaaMh
import Derived.IntWalk
namespace Go.Proofs.Ytidjlboppokloaa.Ab
open Go.RowKit
set_option linter.unusedVariables false
set_option linter.unusedSimpArgs false
set_option maxRecDepth 100000
set_option maxHeartbeats 2000000
/-- laws.heldIntS -/
theorem hd85n (mt : Int → ByteArray) (hmt : FOk Try.prog T 48 (spMT mt)) (n : Nat) : FOk Try.prog T 85 (spHdn mt 3 n) := by
  refine fok (env := envL []) (N := 21) tabT envL_nil mixed Try.func85 rfl Try.call85 Try.ntmps85 ?_
  rintro args ⟨rows, k, h1, h2, wf, hwn, rfl⟩ hwf
  clear hwf
  have hs := wf.short
  refine ⟨by simp, ?_⟩
  rw [Try.results85]
  repeat' first
    | (refine And.intro ?_ ?_)
    | (intro h; simp only [reduceCtorEq] at h; done)
    | (intro h)
  all_goals first
    | (show lowEdges _ = true; kernel_rfl) | (show logOk _ _ = true; kernel_rfl) | exact True.intro | exact Or.inr rfl | exact Or.inl rfl
    | skip
  refine awp_loop (Q := _) [0, 1, 5] [] (fun m st => ∃ j : Nat, st = ([argS 3 (mkRows mt k rows), .val false [.i .i64 (k + cRows (rows.take j))], .val false [.i .i64 (j : Int)]], []) ∧ j ≤ rows.length ∧ m = rows.length - j) ?_ ?_
  · refine ⟨rfl, rows.length, 0, ?_, Nat.zero_le _, rfl⟩
    exact congrArg (fun z : Int => (([argS 3 (mkRows mt k rows), .val false [.i .i64 z], .val false [.i .i64 0]], []) : Snap)) (show k = k + ((0 : Nat) : Int) by omega)
  rintro m st ⟨j, rfl, hj, rfl⟩
  have hml := mkRows_length (mt := mt) rows k
  by_cases hge : rows.length ≤ j
  · have ht : rows.take j = rows := List.take_of_length_le (by omega)
    repeat' first
      | (refine And.intro ?_ ?_)
      | (intro h; simp only [reduceCtorEq] at h; done)
      | (intro h; exact absurd (of_decide_eq_true h) (by rw [hml]; omega))
      | (intro h)
    all_goals first
      | (show lowEdges _ = true; kernel_rfl) | (show logOk _ _ = true; kernel_rfl) | exact True.intro | exact Or.inr rfl | exact Or.inl rfl
      | exact rfl
      | exact congrArg (fun z : Int => [CV.i .i64 z]) (by rw [ht, cRows_mk])
      | skip
  have hlt : j < rows.length := by omega
  obtain ⟨x0, r0, hr, hr0⟩ := WfRow.int_ (wf.at_ (show T 3 = some _ from rfl) hlt)
  obtain rfl := hr0.end_
  clear hr0
  have hrow := mkRows_row (mt := mt) (k := k) hlt
  rw [hr] at hrow
  have hc := cRows_next hlt
  have hc2 := cRows_le rows (j + 1)
  rw [hr] at hc
  have hc3 : cRow [.i x0] = 1 + 0 := rfl
  rw [hc3] at hc
  obtain ⟨q, hq⟩ : ∃ q, (k + cRows (rows.take j)) = q := ⟨_, rfl⟩
  have hnext : k + (cRows (rows.take (j + 1)) : Int) = q + 1 := by omega
  have hq1 : 1 ≤ q := by omega
  have hq2 : q + 1 ≤ 4611686018427387904 := by omega
  rw [hq] at hrow
  have hM : (mkRows mt k rows).getD (Int.toNat (j : Int)) [] = [.i (q)] := hrow
  simp only [hq]
  clear hrow hc hc2 hc3
  have hw0 : IntKind.i64.wrap (q + 1) = q + 1 := IntWalk.i64_in _ (by omega)
  repeat' first
    | (refine And.intro ?_ ?_)
    | (rw [hM])
    | (intro h; simp only [reduceCtorEq] at h; done)
    | (rw [hw0])
    | (intro h; exact hdS h)
    | (intro h; exact hdZ rfl h)
    | (intro h; exact absurd (of_decide_eq_true h) (by omega))
    | (intro h; exact absurd (of_decide_eq_false h) (by rw [hml]; omega))
    | (intro h)
  all_goals first
    | (show lowEdges _ = true; kernel_rfl) | (show logOk _ _ = true; kernel_rfl) | exact True.intro | exact Or.inr rfl | exact Or.inl rfl
    | exact rfl
    | with_reducible exact Int.natCast_nonneg _
    | (show (j : Int) < (((mkRows mt k rows)).length : Int); rw [hml]; omega)
    | (show (Int.toNat (j : Int)) < _; rw [hml, Int.toNat_natCast]; exact hlt)
    | exact ⟨_, by omega, by omega, rfl⟩
    | (refine ⟨rows.length - (j + 1), by omega, j + 1, ?_, by omega, rfl⟩
       exact snapRZ2 (f := fun y z => (([argS 3 (mkRows mt k rows), .val false [.i .i64 y], .val false [.i .i64 z]], []) : Snap)) (by first | exact hnext.symm | omega) (wrapJ hlt hs))
    | skip
theorem hd85 (mt : Int → ByteArray) (hmt : FOk Try.prog T 48 (spMT mt)) : FOk Try.prog T 85 (spHd mt 3) := FOk.held (hd85n mt hmt)
/-- laws.heldStringS -/
theorem hd53n (mt : Int → ByteArray) (hmt : FOk Try.prog T 48 (spMT mt)) (n : Nat) : FOk Try.prog T 53 (spHdn mt 9 n) := by
  refine fok (env := envL [(48, (spMT mt))]) (N := 22) tabT (envL_cons hmt envL_nil) mixed Try.func53 rfl Try.call53 Try.ntmps53 ?_
  rintro args ⟨rows, k, h1, h2, wf, hwn, rfl⟩ hwf
  clear hwf
  have hs := wf.short
  refine ⟨by simp, ?_⟩
  rw [Try.results53]
  repeat' first
    | (refine And.intro ?_ ?_)
    | (intro h; simp only [reduceCtorEq] at h; done)
    | (intro h)
  all_goals first
    | (show lowEdges _ = true; kernel_rfl) | (show logOk _ _ = true; kernel_rfl) | exact True.intro | exact Or.inr rfl | exact Or.inl rfl
    | skip
  refine awp_loop (Q := _) [0, 1, 5] [] (fun m st => ∃ j : Nat, st = ([argS 9 (mkRows mt k rows), .val false [.i .i64 (k + cRows (rows.take j))], .val false [.i .i64 (j : Int)]], []) ∧ j ≤ rows.length ∧ m = rows.length - j) ?_ ?_
  · refine ⟨rfl, rows.length, 0, ?_, Nat.zero_le _, rfl⟩
    exact congrArg (fun z : Int => (([argS 9 (mkRows mt k rows), .val false [.i .i64 z], .val false [.i .i64 0]], []) : Snap)) (show k = k + ((0 : Nat) : Int) by omega)
  rintro m st ⟨j, rfl, hj, rfl⟩
  have hml := mkRows_length (mt := mt) rows k
  by_cases hge : rows.length ≤ j
  · have ht : rows.take j = rows := List.take_of_length_le (by omega)
    repeat' first
      | (refine And.intro ?_ ?_)
      | (intro h; simp only [reduceCtorEq] at h; done)
      | (intro h; exact absurd (of_decide_eq_true h) (by rw [hml]; omega))
      | (intro h)
    all_goals first
      | (show lowEdges _ = true; kernel_rfl) | (show logOk _ _ = true; kernel_rfl) | exact True.intro | exact Or.inr rfl | exact Or.inl rfl
      | exact rfl
      | exact congrArg (fun z : Int => [CV.i .i64 z]) (by rw [ht, cRows_mk])
      | skip
  have hlt : j < rows.length := by omega
  obtain ⟨x0, r0, hr, hr0⟩ := WfRow.str_ (wf.at_ (show T 9 = some _ from rfl) hlt)
  obtain rfl := hr0.end_
  clear hr0
  have hrow := mkRows_row (mt := mt) (k := k) hlt
  rw [hr] at hrow
  have hc := cRows_next hlt
  have hc2 := cRows_le rows (j + 1)
  rw [hr] at hc
  have hc3 : cRow [.s x0] = 1 + 0 := rfl
  rw [hc3] at hc
  obtain ⟨q, hq⟩ : ∃ q, (k + cRows (rows.take j)) = q := ⟨_, rfl⟩
  have hnext : k + (cRows (rows.take (j + 1)) : Int) = q + 1 := by omega
  have hq1 : 1 ≤ q := by omega
  have hq2 : q + 1 ≤ 4611686018427387904 := by omega
  rw [hq] at hrow
  have hM : (mkRows mt k rows).getD (Int.toNat (j : Int)) [] = [.s (mt (q))] := hrow
  simp only [hq]
  clear hrow hc hc2 hc3
  have hw0 : IntKind.i64.wrap (q + 1) = q + 1 := IntWalk.i64_in _ (by omega)
  repeat' first
    | (refine And.intro ?_ ?_)
    | (rw [hM])
    | (intro h; simp only [reduceCtorEq] at h; done)
    | (rw [hw0])
    | (intro h; exact hdS h)
    | (intro h; exact hdZ rfl h)
    | (intro h; exact absurd (of_decide_eq_true h) (by omega))
    | (intro h; exact absurd (of_decide_eq_false h) (by rw [hml]; omega))
    | (intro h)
  all_goals first
    | (show lowEdges _ = true; kernel_rfl) | (show logOk _ _ = true; kernel_rfl) | exact True.intro | exact Or.inr rfl | exact Or.inl rfl
    | exact rfl
    | with_reducible exact Int.natCast_nonneg _
    | (show (j : Int) < (((mkRows mt k rows)).length : Int); rw [hml]; omega)
    | (show (Int.toNat (j : Int)) < _; rw [hml, Int.toNat_natCast]; exact hlt)
    | exact ⟨_, by omega, by omega, rfl⟩
    | (refine ⟨rows.length - (j + 1), by omega, j + 1, ?_, by omega, rfl⟩
       exact snapRZ2 (f := fun y z => (([argS 9 (mkRows mt k rows), .val false [.i .i64 y], .val false [.i .i64 z]], []) : Snap)) (by first | exact hnext.symm | omega) (wrapJ hlt hs))
    | skip
theorem hd53 (mt : Int → ByteArray) (hmt : FOk Try.prog T 48 (spMT mt)) : FOk Try.prog T 53 (spHd mt 9) := FOk.held (hd53n mt hmt)
/-- laws.heldOriginS -/
theorem hd86n (mt : Int → ByteArray) (hmt : FOk Try.prog T 48 (spMT mt)) (n : Nat) : FOk Try.prog T 86 (spHdn mt 142 n) := by
  refine fok (env := envL []) (N := 31) tabT envL_nil mixed Try.func86 rfl Try.call86 Try.ntmps86 ?_
  rintro args ⟨rows, k, h1, h2, wf, hwn, rfl⟩ hwf
  clear hwf
  have hs := wf.short
  refine ⟨by simp, ?_⟩
  rw [Try.results86]
  repeat' first
    | (refine And.intro ?_ ?_)
    | (intro h; simp only [reduceCtorEq] at h; done)
    | (intro h)
  all_goals first
    | (show lowEdges _ = true; kernel_rfl) | (show logOk _ _ = true; kernel_rfl) | exact True.intro | exact Or.inr rfl | exact Or.inl rfl
    | skip
  refine awp_loop (Q := _) [0, 1, 5] [] (fun m st => ∃ j : Nat, st = ([argS 142 (mkRows mt k rows), .val false [.i .i64 (k + cRows (rows.take j))], .val false [.i .i64 (j : Int)]], []) ∧ j ≤ rows.length ∧ m = rows.length - j) ?_ ?_
  · refine ⟨rfl, rows.length, 0, ?_, Nat.zero_le _, rfl⟩
    exact congrArg (fun z : Int => (([argS 142 (mkRows mt k rows), .val false [.i .i64 z], .val false [.i .i64 0]], []) : Snap)) (show k = k + ((0 : Nat) : Int) by omega)
  rintro m st ⟨j, rfl, hj, rfl⟩
  have hml := mkRows_length (mt := mt) rows k
  by_cases hge : rows.length ≤ j
  · have ht : rows.take j = rows := List.take_of_length_le (by omega)
    repeat' first
      | (refine And.intro ?_ ?_)
      | (intro h; simp only [reduceCtorEq] at h; done)
      | (intro h; exact absurd (of_decide_eq_true h) (by rw [hml]; omega))
      | (intro h)
    all_goals first
      | (show lowEdges _ = true; kernel_rfl) | (show logOk _ _ = true; kernel_rfl) | exact True.intro | exact Or.inr rfl | exact Or.inl rfl
      | exact rfl
      | exact congrArg (fun z : Int => [CV.i .i64 z]) (by rw [ht, cRows_mk])
      | skip
  have hlt : j < rows.length := by omega
  obtain ⟨x0, r0, hr, hr0⟩ := WfRow.int_ (wf.at_ (show T 142 = some _ from rfl) hlt)
  obtain ⟨x1, r1, rfl, hr1⟩ := WfRow.int_ hr0
  obtain rfl := hr1.end_
  clear hr1
  have hrow := mkRows_row (mt := mt) (k := k) hlt
  rw [hr] at hrow
  have hc := cRows_next hlt
  have hc2 := cRows_le rows (j + 1)
  rw [hr] at hc
  have hc3 : cRow [.i x0, .i x1] = 1 + (1 + 0) := rfl
  rw [hc3] at hc
  obtain ⟨q, hq⟩ : ∃ q, (k + cRows (rows.take j)) = q := ⟨_, rfl⟩
  have hnext : k + (cRows (rows.take (j + 1)) : Int) = q + 1 + 1 := by omega
  have hq1 : 1 ≤ q := by omega
  have hq2 : q + 1 + 1 ≤ 4611686018427387904 := by omega
  rw [hq] at hrow
  have hM : (mkRows mt k rows).getD (Int.toNat (j : Int)) [] = [.i (q), .i (q + 1)] := hrow
  simp only [hq]
  clear hrow hc hc2 hc3
  have hw0 : IntKind.i64.wrap (q + 1) = q + 1 := IntWalk.i64_in _ (by omega)
  have hw1 : IntKind.i64.wrap (q + 1 + 1) = q + 1 + 1 := IntWalk.i64_in _ (by omega)
  repeat' first
    | (refine And.intro ?_ ?_)
    | (rw [hM])
    | (intro h; simp only [reduceCtorEq] at h; done)
    | (rw [hw0])
    | (rw [hw1])
    | (intro h; exact hdS h)
    | (intro h; exact hdZ rfl h)
    | (intro h; exact absurd (of_decide_eq_true h) (by omega))
    | (intro h; exact absurd (of_decide_eq_false h) (by rw [hml]; omega))
    | (intro h)
  all_goals first
    | (show lowEdges _ = true; kernel_rfl) | (show logOk _ _ = true; kernel_rfl) | exact True.intro | exact Or.inr rfl | exact Or.inl rfl
    | exact rfl
    | with_reducible exact Int.natCast_nonneg _
    | (show (j : Int) < (((mkRows mt k rows)).length : Int); rw [hml]; omega)
    | (show (Int.toNat (j : Int)) < _; rw [hml, Int.toNat_natCast]; exact hlt)
    | exact ⟨_, by omega, by omega, rfl⟩
    | (refine ⟨rows.length - (j + 1), by omega, j + 1, ?_, by omega, rfl⟩
       exact snapRZ2 (f := fun y z => (([argS 142 (mkRows mt k rows), .val false [.i .i64 y], .val false [.i .i64 z]], []) : Snap)) (by first | exact hnext.symm | omega) (wrapJ hlt hs))
    | skip
theorem hd86 (mt : Int → ByteArray) (hmt : FOk Try.prog T 48 (spMT mt)) : FOk Try.prog T 86 (spHd mt 142) := FOk.held (hd86n mt hmt)
/-- laws.heldRowS -/
theorem hd54n (mt : Int → ByteArray) (hmt : FOk Try.prog T 48 (spMT mt)) (n : Nat) : FOk Try.prog T 54 (spHdn mt 114 n) := by
  refine fok (env := envL [(85, (spHd mt 3)), (86, (spHd mt 142))]) (N := 31) tabT (envL_cons (hd85 mt hmt) (envL_cons (hd86 mt hmt) envL_nil)) mixed Try.func54 rfl Try.call54 Try.ntmps54 ?_
  rintro args ⟨rows, k, h1, h2, wf, hwn, rfl⟩ hwf
  clear hwf
  have hs := wf.short
  refine ⟨by simp, ?_⟩
  rw [Try.results54]
  repeat' first
    | (refine And.intro ?_ ?_)
    | (intro h; simp only [reduceCtorEq] at h; done)
    | (intro h)
  all_goals first
    | (show lowEdges _ = true; kernel_rfl) | (show logOk _ _ = true; kernel_rfl) | exact True.intro | exact Or.inr rfl | exact Or.inl rfl
    | skip
  refine awp_loop (Q := _) [0, 1, 5] [] (fun m st => ∃ j : Nat, st = ([argS 114 (mkRows mt k rows), .val false [.i .i64 (k + cRows (rows.take j))], .val false [.i .i64 (j : Int)]], []) ∧ j ≤ rows.length ∧ m = rows.length - j) ?_ ?_
  · refine ⟨rfl, rows.length, 0, ?_, Nat.zero_le _, rfl⟩
    exact congrArg (fun z : Int => (([argS 114 (mkRows mt k rows), .val false [.i .i64 z], .val false [.i .i64 0]], []) : Snap)) (show k = k + ((0 : Nat) : Int) by omega)
  rintro m st ⟨j, rfl, hj, rfl⟩
  have hml := mkRows_length (mt := mt) rows k
  by_cases hge : rows.length ≤ j
  · have ht : rows.take j = rows := List.take_of_length_le (by omega)
    repeat' first
      | (refine And.intro ?_ ?_)
      | (intro h; simp only [reduceCtorEq] at h; done)
      | (intro h; exact absurd (of_decide_eq_true h) (by rw [hml]; omega))
      | (intro h)
    all_goals first
      | (show lowEdges _ = true; kernel_rfl) | (show logOk _ _ = true; kernel_rfl) | exact True.intro | exact Or.inr rfl | exact Or.inl rfl
      | exact rfl
      | exact congrArg (fun z : Int => [CV.i .i64 z]) (by rw [ht, cRows_mk])
      | skip
  have hlt : j < rows.length := by omega
  obtain ⟨x0, r0, hr, wf0, hr0⟩ := WfRow.slW (wf.at_ (show T 114 = some _ from rfl) hlt)
  obtain ⟨x1, r1, rfl, wf1, hr1⟩ := WfRow.slW hr0
  obtain rfl := hr1.end_
  clear hr1
  have hrow := mkRows_row (mt := mt) (k := k) hlt
  rw [hr] at hrow
  have hm0 : wD (.l x0) < wD (.l rows) := wD_part hlt (j := 0) (by rw [hr]; rfl)
  have hm1 : wD (.l x1) < wD (.l rows) := wD_part hlt (j := 1) (by rw [hr]; rfl)
  have hc := cRows_next hlt
  have hc2 := cRows_le rows (j + 1)
  rw [hr] at hc
  have hc3 : cRow [.l x0, .l x1] = cRows x0 + (cRows x1 + 0) := rfl
  rw [hc3] at hc
  obtain ⟨q, hq⟩ : ∃ q, (k + cRows (rows.take j)) = q := ⟨_, rfl⟩
  have hnext : k + (cRows (rows.take (j + 1)) : Int) = q + cRows x0 + cRows x1 := by omega
  have hq1 : 1 ≤ q := by omega
  have hq2 : q + cRows x0 + cRows x1 ≤ 4611686018427387904 := by omega
  rw [hq] at hrow
  have hM : (mkRows mt k rows).getD (Int.toNat (j : Int)) [] = [.l (mkRows mt (q) x0), .l (mkRows mt (q + cRows x0) x1)] := hrow
  simp only [hq]
  clear hrow hc hc2 hc3
  have hx0 : cRows (([.l (mkRows mt (q) x0), .l (mkRows mt (q + cRows x0) x1)] : List D).getD 0 default).rows = cRows x0 := cRows_mk _ _
  have hx1 : cRows (([.l (mkRows mt (q) x0), .l (mkRows mt (q + cRows x0) x1)] : List D).getD 1 default).rows = cRows x1 := cRows_mk _ _
  repeat' first
    | (refine And.intro ?_ ?_)
    | (rw [hM])
    | (intro h; simp only [reduceCtorEq] at h; done)
    | (rw [hx0])
    | (rw [hx1])
    | (intro h; exact hdS h)
    | (intro h; exact hdZ rfl h)
    | (intro h; exact absurd (of_decide_eq_true h) (by omega))
    | (intro h; exact absurd (of_decide_eq_false h) (by rw [hml]; omega))
    | (intro h)
  all_goals first
    | (show lowEdges _ = true; kernel_rfl) | (show logOk _ _ = true; kernel_rfl) | exact True.intro | exact Or.inr rfl | exact Or.inl rfl
    | exact rfl
    | with_reducible exact Int.natCast_nonneg _
    | (show (j : Int) < (((mkRows mt k rows)).length : Int); rw [hml]; omega)
    | (show (Int.toNat (j : Int)) < _; rw [hml, Int.toNat_natCast]; exact hlt)
    | exact ⟨_, by omega, by omega, rfl⟩
    | exact ⟨x0, q, by omega, by omega, wf0, rfl⟩
    | exact ⟨x1, q + cRows x0, by omega, by omega, wf1, rfl⟩
    | (refine ⟨rows.length - (j + 1), by omega, j + 1, ?_, by omega, rfl⟩
       exact snapRZ2 (f := fun y z => (([argS 114 (mkRows mt k rows), .val false [.i .i64 y], .val false [.i .i64 z]], []) : Snap)) (by first | exact hnext.symm | omega) (wrapJ hlt hs))
    | skip
theorem hd54 (mt : Int → ByteArray) (hmt : FOk Try.prog T 48 (spMT mt)) : FOk Try.prog T 54 (spHd mt 114) := FOk.held (hd54n mt hmt)
theorem hd052 (mt : Int → ByteArray) : FOk Try.prog T 52 (spHdn mt 60 0) := by
  refine fok (env := envL []) (N := 77) tabT envL_nil mixed Try.func52 rfl Try.call52 Try.ntmps52 ?_
  exact fun args ⟨rows, k, h1, h2, wf, hwn, h⟩ => absurd hwn (Nat.not_lt_zero _)
/-- laws.heldValueS -/
theorem hdS52_ (mt : Int → ByteArray) (hmt : FOk Try.prog T 48 (spMT mt)) (n : Nat) (ih : FOk Try.prog T 52 (spHdn mt 60 n)) : FOk Try.prog T 52 (spHdn mt 60 (n + 1)) := by
  refine fok (env := envL [(48, (spMT mt)), (52, (spHdn mt 60 n)), (53, (spHd mt 9)), (54, (spHd mt 114))]) (N := 77) tabT (envL_cons hmt (envL_cons ih (envL_cons (hd53 mt hmt) (envL_cons (hd54 mt hmt) envL_nil)))) mixed Try.func52 rfl Try.call52 Try.ntmps52 ?_
  rintro args ⟨rows, k, h1, h2, wf, hwn, rfl⟩ hwf
  clear hwf
  have hs := wf.short
  refine ⟨by simp, ?_⟩
  rw [Try.results52]
  repeat' first
    | (refine And.intro ?_ ?_)
    | (intro h; simp only [reduceCtorEq] at h; done)
    | (intro h)
  all_goals first
    | (show lowEdges _ = true; kernel_rfl) | (show logOk _ _ = true; kernel_rfl) | exact True.intro | exact Or.inr rfl | exact Or.inl rfl
    | skip
  refine awp_loop (Q := _) [0, 1, 5] [] (fun m st => ∃ j : Nat, st = ([argS 60 (mkRows mt k rows), .val false [.i .i64 (k + cRows (rows.take j))], .val false [.i .i64 (j : Int)]], []) ∧ j ≤ rows.length ∧ m = rows.length - j) ?_ ?_
  · refine ⟨rfl, rows.length, 0, ?_, Nat.zero_le _, rfl⟩
    exact congrArg (fun z : Int => (([argS 60 (mkRows mt k rows), .val false [.i .i64 z], .val false [.i .i64 0]], []) : Snap)) (show k = k + ((0 : Nat) : Int) by omega)
  rintro m st ⟨j, rfl, hj, rfl⟩
  have hml := mkRows_length (mt := mt) rows k
  by_cases hge : rows.length ≤ j
  · have ht : rows.take j = rows := List.take_of_length_le (by omega)
    repeat' first
      | (refine And.intro ?_ ?_)
      | (intro h; simp only [reduceCtorEq] at h; done)
      | (intro h; exact absurd (of_decide_eq_true h) (by rw [hml]; omega))
      | (intro h)
    all_goals first
      | (show lowEdges _ = true; kernel_rfl) | (show logOk _ _ = true; kernel_rfl) | exact True.intro | exact Or.inr rfl | exact Or.inl rfl
      | exact rfl
      | exact congrArg (fun z : Int => [CV.i .i64 z]) (by rw [ht, cRows_mk])
      | skip
  have hlt : j < rows.length := by omega
  obtain ⟨x0, r0, hr, hr0⟩ := WfRow.int_ (wf.at_ (show T 60 = some _ from rfl) hlt)
  obtain ⟨x1, r1, rfl, hr1⟩ := WfRow.int_ hr0
  obtain ⟨x2, r2, rfl, hr2⟩ := WfRow.int_ hr1
  obtain ⟨x3, r3, rfl, hr3⟩ := WfRow.str_ hr2
  obtain ⟨x4, r4, rfl, wf4, hr4⟩ := WfRow.slW hr3
  obtain ⟨x5, r5, rfl, wf5, hr5⟩ := WfRow.slW hr4
  obtain ⟨x6, r6, rfl, wf6, hr6⟩ := WfRow.slW hr5
  obtain rfl := hr6.end_
  clear hr6
  have hrow := mkRows_row (mt := mt) (k := k) hlt
  rw [hr] at hrow
  have hm4 : wD (.l x4) < wD (.l rows) := wD_part hlt (j := 4) (by rw [hr]; rfl)
  have hm5 : wD (.l x5) < wD (.l rows) := wD_part hlt (j := 5) (by rw [hr]; rfl)
  have hm6 : wD (.l x6) < wD (.l rows) := wD_part hlt (j := 6) (by rw [hr]; rfl)
  have hc := cRows_next hlt
  have hc2 := cRows_le rows (j + 1)
  rw [hr] at hc
  have hc3 : cRow [.i x0, .i x1, .i x2, .s x3, .l x4, .l x5, .l x6] = 1 + (1 + (1 + (1 + (cRows x4 + (cRows x5 + (cRows x6 + 0)))))) := rfl
  rw [hc3] at hc
  obtain ⟨q, hq⟩ : ∃ q, (k + cRows (rows.take j)) = q := ⟨_, rfl⟩
  have hnext : k + (cRows (rows.take (j + 1)) : Int) = q + 1 + 1 + 1 + 1 + cRows x4 + cRows x5 + cRows x6 := by omega
  have hq1 : 1 ≤ q := by omega
  have hq2 : q + 1 + 1 + 1 + 1 + cRows x4 + cRows x5 + cRows x6 ≤ 4611686018427387904 := by omega
  rw [hq] at hrow
  have hM : (mkRows mt k rows).getD (Int.toNat (j : Int)) [] = [.i (q), .i (q + 1), .i (q + 1 + 1), .s (mt (q + 1 + 1 + 1)), .l (mkRows mt (q + 1 + 1 + 1 + 1) x4), .l (mkRows mt (q + 1 + 1 + 1 + 1 + cRows x4) x5), .l (mkRows mt (q + 1 + 1 + 1 + 1 + cRows x4 + cRows x5) x6)] := hrow
  simp only [hq]
  clear hrow hc hc2 hc3
  have hw0 : IntKind.i64.wrap (q + 1) = q + 1 := IntWalk.i64_in _ (by omega)
  have hw1 : IntKind.i64.wrap (q + 1 + 1) = q + 1 + 1 := IntWalk.i64_in _ (by omega)
  have hw2 : IntKind.i64.wrap (q + 1 + 1 + 1) = q + 1 + 1 + 1 := IntWalk.i64_in _ (by omega)
  have hw3 : IntKind.i64.wrap (q + 1 + 1 + 1 + 1) = q + 1 + 1 + 1 + 1 := IntWalk.i64_in _ (by omega)
  have hx4 : cRows (([.i (q), .i (q + 1), .i (q + 1 + 1), .s (mt (q + 1 + 1 + 1)), .l (mkRows mt (q + 1 + 1 + 1 + 1) x4), .l (mkRows mt (q + 1 + 1 + 1 + 1 + cRows x4) x5), .l (mkRows mt (q + 1 + 1 + 1 + 1 + cRows x4 + cRows x5) x6)] : List D).getD 4 default).rows = cRows x4 := cRows_mk _ _
  have hx5 : cRows (([.i (q), .i (q + 1), .i (q + 1 + 1), .s (mt (q + 1 + 1 + 1)), .l (mkRows mt (q + 1 + 1 + 1 + 1) x4), .l (mkRows mt (q + 1 + 1 + 1 + 1 + cRows x4) x5), .l (mkRows mt (q + 1 + 1 + 1 + 1 + cRows x4 + cRows x5) x6)] : List D).getD 5 default).rows = cRows x5 := cRows_mk _ _
  have hx6 : cRows (([.i (q), .i (q + 1), .i (q + 1 + 1), .s (mt (q + 1 + 1 + 1)), .l (mkRows mt (q + 1 + 1 + 1 + 1) x4), .l (mkRows mt (q + 1 + 1 + 1 + 1 + cRows x4) x5), .l (mkRows mt (q + 1 + 1 + 1 + 1 + cRows x4 + cRows x5) x6)] : List D).getD 6 default).rows = cRows x6 := cRows_mk _ _
  repeat' first
    | (refine And.intro ?_ ?_)
    | (rw [hM])
    | (intro h; simp only [reduceCtorEq] at h; done)
    | (rw [hw0])
    | (rw [hw1])
    | (rw [hw2])
    | (rw [hw3])
    | (rw [hx4])
    | (rw [hx5])
    | (rw [hx6])
    | (intro h; exact hdS h)
    | (intro h; exact hdZ rfl h)
    | (intro h; exact absurd (of_decide_eq_true h) (by omega))
    | (intro h; exact absurd (of_decide_eq_false h) (by rw [hml]; omega))
    | (intro h)
  all_goals first
    | (show lowEdges _ = true; kernel_rfl) | (show logOk _ _ = true; kernel_rfl) | exact True.intro | exact Or.inr rfl | exact Or.inl rfl
    | exact rfl
    | with_reducible exact Int.natCast_nonneg _
    | (show (j : Int) < (((mkRows mt k rows)).length : Int); rw [hml]; omega)
    | (show (Int.toNat (j : Int)) < _; rw [hml, Int.toNat_natCast]; exact hlt)
    | exact ⟨_, by omega, by omega, rfl⟩
    | exact ⟨x4, q + 1 + 1 + 1 + 1, by omega, by omega, wf4, by omega, rfl⟩
    | exact ⟨x5, q + 1 + 1 + 1 + 1 + cRows x4, by omega, by omega, wf5, rfl⟩
    | exact ⟨x6, q + 1 + 1 + 1 + 1 + cRows x4 + cRows x5, by omega, by omega, wf6, rfl⟩
    | (refine ⟨rows.length - (j + 1), by omega, j + 1, ?_, by omega, rfl⟩
       exact snapRZ2 (f := fun y z => (([argS 60 (mkRows mt k rows), .val false [.i .i64 y], .val false [.i .i64 z]], []) : Snap)) (by first | exact hnext.symm | omega) (wrapJ hlt hs))
    | skip
theorem hd52n (mt : Int → ByteArray) (hmt : FOk Try.prog T 48 (spMT mt)) : ∀ n, FOk Try.prog T 52 (spHdn mt 60 n)
  | 0 => hd052 mt
  | n + 1 => hdS52_ mt hmt n (hd52n mt hmt n)
theorem hd52 (mt : Int → ByteArray) (hmt : FOk Try.prog T 48 (spMT mt)) : FOk Try.prog T 52 (spHd mt 60) := FOk.held (hd52n mt hmt)
/-- laws.heldReadS -/
theorem hd27n (mt : Int → ByteArray) (hmt : FOk Try.prog T 48 (spMT mt)) (n : Nat) : FOk Try.prog T 27 (spHdn mt 64 n) := by
  refine fok (env := envL [(48, (spMT mt)), (52, (spHd mt 60)), (53, (spHd mt 9)), (54, (spHd mt 114))]) (N := 121) tabT (envL_cons hmt (envL_cons (hd52 mt hmt) (envL_cons (hd53 mt hmt) (envL_cons (hd54 mt hmt) envL_nil)))) mixed Try.func27 rfl Try.call27 Try.ntmps27 ?_
  rintro args ⟨rows, k, h1, h2, wf, hwn, rfl⟩ hwf
  clear hwf
  have hs := wf.short
  refine ⟨by simp, ?_⟩
  rw [Try.results27]
  repeat' first
    | (refine And.intro ?_ ?_)
    | (intro h; simp only [reduceCtorEq] at h; done)
    | (intro h)
  all_goals first
    | (show lowEdges _ = true; kernel_rfl) | (show logOk _ _ = true; kernel_rfl) | exact True.intro | exact Or.inr rfl | exact Or.inl rfl
    | skip
  refine awp_loop (Q := _) [0, 1, 5] [] (fun m st => ∃ j : Nat, st = ([argS 64 (mkRows mt k rows), .val false [.i .i64 (k + cRows (rows.take j))], .val false [.i .i64 (j : Int)]], []) ∧ j ≤ rows.length ∧ m = rows.length - j) ?_ ?_
  · refine ⟨rfl, rows.length, 0, ?_, Nat.zero_le _, rfl⟩
    exact congrArg (fun z : Int => (([argS 64 (mkRows mt k rows), .val false [.i .i64 z], .val false [.i .i64 0]], []) : Snap)) (show k = k + ((0 : Nat) : Int) by omega)
  rintro m st ⟨j, rfl, hj, rfl⟩
  have hml := mkRows_length (mt := mt) rows k
  by_cases hge : rows.length ≤ j
  · have ht : rows.take j = rows := List.take_of_length_le (by omega)
    repeat' first
      | (refine And.intro ?_ ?_)
      | (intro h; simp only [reduceCtorEq] at h; done)
      | (intro h; exact absurd (of_decide_eq_true h) (by rw [hml]; omega))
      | (intro h)
    all_goals first
      | (show lowEdges _ = true; kernel_rfl) | (show logOk _ _ = true; kernel_rfl) | exact True.intro | exact Or.inr rfl | exact Or.inl rfl
      | exact rfl
      | exact congrArg (fun z : Int => [CV.i .i64 z]) (by rw [ht, cRows_mk])
      | skip
  have hlt : j < rows.length := by omega
  obtain ⟨x0, r0, hr, hr0⟩ := WfRow.int_ (wf.at_ (show T 64 = some _ from rfl) hlt)
  obtain ⟨x1, r1, rfl, hr1⟩ := WfRow.int_ hr0
  obtain ⟨x2, r2, rfl, hr2⟩ := WfRow.int_ hr1
  obtain ⟨x3, r3, rfl, hr3⟩ := WfRow.str_ hr2
  obtain ⟨x4, r4, rfl, hr4⟩ := WfRow.int_ hr3
  obtain ⟨x5, r5, rfl, hr5⟩ := WfRow.int_ hr4
  obtain ⟨x6, r6, rfl, hr6⟩ := WfRow.int_ hr5
  obtain ⟨x7, r7, rfl, hr7⟩ := WfRow.str_ hr6
  obtain ⟨x8, r8, rfl, wf8, hr8⟩ := WfRow.slW hr7
  obtain ⟨x9, r9, rfl, wf9, hr9⟩ := WfRow.slW hr8
  obtain ⟨x10, r10, rfl, wf10, hr10⟩ := WfRow.slW hr9
  obtain rfl := hr10.end_
  clear hr10
  have hrow := mkRows_row (mt := mt) (k := k) hlt
  rw [hr] at hrow
  have hm8 : wD (.l x8) < wD (.l rows) := wD_part hlt (j := 8) (by rw [hr]; rfl)
  have hm9 : wD (.l x9) < wD (.l rows) := wD_part hlt (j := 9) (by rw [hr]; rfl)
  have hm10 : wD (.l x10) < wD (.l rows) := wD_part hlt (j := 10) (by rw [hr]; rfl)
  have hc := cRows_next hlt
  have hc2 := cRows_le rows (j + 1)
  rw [hr] at hc
  have hc3 : cRow [.i x0, .i x1, .i x2, .s x3, .i x4, .i x5, .i x6, .s x7, .l x8, .l x9, .l x10] = 1 + (1 + (1 + (1 + (1 + (1 + (1 + (1 + (cRows x8 + (cRows x9 + (cRows x10 + 0)))))))))) := rfl
  rw [hc3] at hc
  obtain ⟨q, hq⟩ : ∃ q, (k + cRows (rows.take j)) = q := ⟨_, rfl⟩
  have hnext : k + (cRows (rows.take (j + 1)) : Int) = q + 1 + 1 + 1 + 1 + 1 + 1 + 1 + 1 + cRows x8 + cRows x9 + cRows x10 := by omega
  have hq1 : 1 ≤ q := by omega
  have hq2 : q + 1 + 1 + 1 + 1 + 1 + 1 + 1 + 1 + cRows x8 + cRows x9 + cRows x10 ≤ 4611686018427387904 := by omega
  rw [hq] at hrow
  have hM : (mkRows mt k rows).getD (Int.toNat (j : Int)) [] = [.i (q), .i (q + 1), .i (q + 1 + 1), .s (mt (q + 1 + 1 + 1)), .i (q + 1 + 1 + 1 + 1), .i (q + 1 + 1 + 1 + 1 + 1), .i (q + 1 + 1 + 1 + 1 + 1 + 1), .s (mt (q + 1 + 1 + 1 + 1 + 1 + 1 + 1)), .l (mkRows mt (q + 1 + 1 + 1 + 1 + 1 + 1 + 1 + 1) x8), .l (mkRows mt (q + 1 + 1 + 1 + 1 + 1 + 1 + 1 + 1 + cRows x8) x9), .l (mkRows mt (q + 1 + 1 + 1 + 1 + 1 + 1 + 1 + 1 + cRows x8 + cRows x9) x10)] := hrow
  simp only [hq]
  clear hrow hc hc2 hc3
  have hw0 : IntKind.i64.wrap (q + 1) = q + 1 := IntWalk.i64_in _ (by omega)
  have hw1 : IntKind.i64.wrap (q + 1 + 1) = q + 1 + 1 := IntWalk.i64_in _ (by omega)
  have hw2 : IntKind.i64.wrap (q + 1 + 1 + 1) = q + 1 + 1 + 1 := IntWalk.i64_in _ (by omega)
  have hw3 : IntKind.i64.wrap (q + 1 + 1 + 1 + 1) = q + 1 + 1 + 1 + 1 := IntWalk.i64_in _ (by omega)
  have hw4 : IntKind.i64.wrap (q + 1 + 1 + 1 + 1 + 1) = q + 1 + 1 + 1 + 1 + 1 := IntWalk.i64_in _ (by omega)
  have hw5 : IntKind.i64.wrap (q + 1 + 1 + 1 + 1 + 1 + 1) = q + 1 + 1 + 1 + 1 + 1 + 1 := IntWalk.i64_in _ (by omega)
  have hw6 : IntKind.i64.wrap (q + 1 + 1 + 1 + 1 + 1 + 1 + 1) = q + 1 + 1 + 1 + 1 + 1 + 1 + 1 := IntWalk.i64_in _ (by omega)
  have hw7 : IntKind.i64.wrap (q + 1 + 1 + 1 + 1 + 1 + 1 + 1 + 1) = q + 1 + 1 + 1 + 1 + 1 + 1 + 1 + 1 := IntWalk.i64_in _ (by omega)
  have hx8 : cRows (([.i (q), .i (q + 1), .i (q + 1 + 1), .s (mt (q + 1 + 1 + 1)), .i (q + 1 + 1 + 1 + 1), .i (q + 1 + 1 + 1 + 1 + 1), .i (q + 1 + 1 + 1 + 1 + 1 + 1), .s (mt (q + 1 + 1 + 1 + 1 + 1 + 1 + 1)), .l (mkRows mt (q + 1 + 1 + 1 + 1 + 1 + 1 + 1 + 1) x8), .l (mkRows mt (q + 1 + 1 + 1 + 1 + 1 + 1 + 1 + 1 + cRows x8) x9), .l (mkRows mt (q + 1 + 1 + 1 + 1 + 1 + 1 + 1 + 1 + cRows x8 + cRows x9) x10)] : List D).getD 8 default).rows = cRows x8 := cRows_mk _ _
  have hx9 : cRows (([.i (q), .i (q + 1), .i (q + 1 + 1), .s (mt (q + 1 + 1 + 1)), .i (q + 1 + 1 + 1 + 1), .i (q + 1 + 1 + 1 + 1 + 1), .i (q + 1 + 1 + 1 + 1 + 1 + 1), .s (mt (q + 1 + 1 + 1 + 1 + 1 + 1 + 1)), .l (mkRows mt (q + 1 + 1 + 1 + 1 + 1 + 1 + 1 + 1) x8), .l (mkRows mt (q + 1 + 1 + 1 + 1 + 1 + 1 + 1 + 1 + cRows x8) x9), .l (mkRows mt (q + 1 + 1 + 1 + 1 + 1 + 1 + 1 + 1 + cRows x8 + cRows x9) x10)] : List D).getD 9 default).rows = cRows x9 := cRows_mk _ _
  have hx10 : cRows (([.i (q), .i (q + 1), .i (q + 1 + 1), .s (mt (q + 1 + 1 + 1)), .i (q + 1 + 1 + 1 + 1), .i (q + 1 + 1 + 1 + 1 + 1), .i (q + 1 + 1 + 1 + 1 + 1 + 1), .s (mt (q + 1 + 1 + 1 + 1 + 1 + 1 + 1)), .l (mkRows mt (q + 1 + 1 + 1 + 1 + 1 + 1 + 1 + 1) x8), .l (mkRows mt (q + 1 + 1 + 1 + 1 + 1 + 1 + 1 + 1 + cRows x8) x9), .l (mkRows mt (q + 1 + 1 + 1 + 1 + 1 + 1 + 1 + 1 + cRows x8 + cRows x9) x10)] : List D).getD 10 default).rows = cRows x10 := cRows_mk _ _
  repeat' first
    | (refine And.intro ?_ ?_)
    | (rw [hM])
    | (intro h; simp only [reduceCtorEq] at h; done)
    | (rw [hw0])
    | (rw [hw1])
    | (rw [hw2])
    | (rw [hw3])
    | (rw [hw4])
    | (rw [hw5])
    | (rw [hw6])
    | (rw [hw7])
    | (rw [hx8])
    | (rw [hx9])
    | (rw [hx10])
    | (intro h; exact hdS h)
    | (intro h; exact hdZ rfl h)
    | (intro h; exact absurd (of_decide_eq_true h) (by omega))
    | (intro h; exact absurd (of_decide_eq_false h) (by rw [hml]; omega))
    | (intro h)
  all_goals first
    | (show lowEdges _ = true; kernel_rfl) | (show logOk _ _ = true; kernel_rfl) | exact True.intro | exact Or.inr rfl | exact Or.inl rfl
    | exact rfl
    | with_reducible exact Int.natCast_nonneg _
    | (show (j : Int) < (((mkRows mt k rows)).length : Int); rw [hml]; omega)
    | (show (Int.toNat (j : Int)) < _; rw [hml, Int.toNat_natCast]; exact hlt)
    | exact ⟨_, by omega, by omega, rfl⟩
    | exact ⟨x8, q + 1 + 1 + 1 + 1 + 1 + 1 + 1 + 1, by omega, by omega, wf8, rfl⟩
    | exact ⟨x9, q + 1 + 1 + 1 + 1 + 1 + 1 + 1 + 1 + cRows x8, by omega, by omega, wf9, rfl⟩
    | exact ⟨x10, q + 1 + 1 + 1 + 1 + 1 + 1 + 1 + 1 + cRows x8 + cRows x9, by omega, by omega, wf10, rfl⟩
    | (refine ⟨rows.length - (j + 1), by omega, j + 1, ?_, by omega, rfl⟩
       exact snapRZ2 (f := fun y z => (([argS 64 (mkRows mt k rows), .val false [.i .i64 y], .val false [.i .i64 z]], []) : Snap)) (by first | exact hnext.symm | omega) (wrapJ hlt hs))
    | skip
theorem hd27 (mt : Int → ByteArray) (hmt : FOk Try.prog T 48 (spMT mt)) : FOk Try.prog T 27 (spHd mt 64) := FOk.held (hd27n mt hmt)
/-- laws.heldTapeS -/
theorem hd11n (mt : Int → ByteArray) (hmt : FOk Try.prog T 48 (spMT mt)) (n : Nat) : FOk Try.prog T 11 (spHdn mt 54 n) := by
  refine fok (env := envL [(27, (spHd mt 64))]) (N := 40) tabT (envL_cons (hd27 mt hmt) envL_nil) mixed Try.func11 rfl Try.call11 Try.ntmps11 ?_
  rintro args ⟨rows, k, h1, h2, wf, hwn, rfl⟩ hwf
  clear hwf
  have hs := wf.short
  refine ⟨by simp, ?_⟩
  rw [Try.results11]
  repeat' first
    | (refine And.intro ?_ ?_)
    | (intro h; simp only [reduceCtorEq] at h; done)
    | (intro h)
  all_goals first
    | (show lowEdges _ = true; kernel_rfl) | (show logOk _ _ = true; kernel_rfl) | exact True.intro | exact Or.inr rfl | exact Or.inl rfl
    | skip
  refine awp_loop (Q := _) [0, 1, 5] [] (fun m st => ∃ j : Nat, st = ([argS 54 (mkRows mt k rows), .val false [.i .i64 (k + cRows (rows.take j))], .val false [.i .i64 (j : Int)]], []) ∧ j ≤ rows.length ∧ m = rows.length - j) ?_ ?_
  · refine ⟨rfl, rows.length, 0, ?_, Nat.zero_le _, rfl⟩
    exact congrArg (fun z : Int => (([argS 54 (mkRows mt k rows), .val false [.i .i64 z], .val false [.i .i64 0]], []) : Snap)) (show k = k + ((0 : Nat) : Int) by omega)
  rintro m st ⟨j, rfl, hj, rfl⟩
  have hml := mkRows_length (mt := mt) rows k
  by_cases hge : rows.length ≤ j
  · have ht : rows.take j = rows := List.take_of_length_le (by omega)
    repeat' first
      | (refine And.intro ?_ ?_)
      | (intro h; simp only [reduceCtorEq] at h; done)
      | (intro h; exact absurd (of_decide_eq_true h) (by rw [hml]; omega))
      | (intro h)
    all_goals first
      | (show lowEdges _ = true; kernel_rfl) | (show logOk _ _ = true; kernel_rfl) | exact True.intro | exact Or.inr rfl | exact Or.inl rfl
      | exact rfl
      | exact congrArg (fun z : Int => [CV.i .i64 z]) (by rw [ht, cRows_mk])
      | skip
  have hlt : j < rows.length := by omega
  obtain ⟨x0, r0, hr, hr0⟩ := WfRow.int_ (wf.at_ (show T 54 = some _ from rfl) hlt)
  obtain ⟨x1, r1, rfl, hr1⟩ := WfRow.int_ hr0
  obtain ⟨x2, r2, rfl, wf2, hr2⟩ := WfRow.slW hr1
  obtain rfl := hr2.end_
  clear hr2
  have hrow := mkRows_row (mt := mt) (k := k) hlt
  rw [hr] at hrow
  have hm2 : wD (.l x2) < wD (.l rows) := wD_part hlt (j := 2) (by rw [hr]; rfl)
  have hc := cRows_next hlt
  have hc2 := cRows_le rows (j + 1)
  rw [hr] at hc
  have hc3 : cRow [.i x0, .i x1, .l x2] = 1 + (1 + (cRows x2 + 0)) := rfl
  rw [hc3] at hc
  obtain ⟨q, hq⟩ : ∃ q, (k + cRows (rows.take j)) = q := ⟨_, rfl⟩
  have hnext : k + (cRows (rows.take (j + 1)) : Int) = q + 1 + 1 + cRows x2 := by omega
  have hq1 : 1 ≤ q := by omega
  have hq2 : q + 1 + 1 + cRows x2 ≤ 4611686018427387904 := by omega
  rw [hq] at hrow
  have hM : (mkRows mt k rows).getD (Int.toNat (j : Int)) [] = [.i (q), .i (q + 1), .l (mkRows mt (q + 1 + 1) x2)] := hrow
  simp only [hq]
  clear hrow hc hc2 hc3
  have hw0 : IntKind.i64.wrap (q + 1) = q + 1 := IntWalk.i64_in _ (by omega)
  have hw1 : IntKind.i64.wrap (q + 1 + 1) = q + 1 + 1 := IntWalk.i64_in _ (by omega)
  have hx2 : cRows (([.i (q), .i (q + 1), .l (mkRows mt (q + 1 + 1) x2)] : List D).getD 2 default).rows = cRows x2 := cRows_mk _ _
  repeat' first
    | (refine And.intro ?_ ?_)
    | (rw [hM])
    | (intro h; simp only [reduceCtorEq] at h; done)
    | (rw [hw0])
    | (rw [hw1])
    | (rw [hx2])
    | (intro h; exact hdS h)
    | (intro h; exact hdZ rfl h)
    | (intro h; exact absurd (of_decide_eq_true h) (by omega))
    | (intro h; exact absurd (of_decide_eq_false h) (by rw [hml]; omega))
    | (intro h)
  all_goals first
    | (show lowEdges _ = true; kernel_rfl) | (show logOk _ _ = true; kernel_rfl) | exact True.intro | exact Or.inr rfl | exact Or.inl rfl
    | exact rfl
    | with_reducible exact Int.natCast_nonneg _
    | (show (j : Int) < (((mkRows mt k rows)).length : Int); rw [hml]; omega)
    | (show (Int.toNat (j : Int)) < _; rw [hml, Int.toNat_natCast]; exact hlt)
    | exact ⟨_, by omega, by omega, rfl⟩
    | exact ⟨x2, q + 1 + 1, by omega, by omega, wf2, rfl⟩
    | (refine ⟨rows.length - (j + 1), by omega, j + 1, ?_, by omega, rfl⟩
       exact snapRZ2 (f := fun y z => (([argS 54 (mkRows mt k rows), .val false [.i .i64 y], .val false [.i .i64 z]], []) : Snap)) (by first | exact hnext.symm | omega) (wrapJ hlt hs))
    | skip
theorem hd11 (mt : Int → ByteArray) (hmt : FOk Try.prog T 48 (spMT mt)) : FOk Try.prog T 11 (spHd mt 54) := FOk.held (hd11n mt hmt)
end Go.Proofs.Ytidjlboppokloaa.Ab
