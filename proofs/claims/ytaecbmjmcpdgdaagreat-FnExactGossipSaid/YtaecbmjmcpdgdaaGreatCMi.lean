/- What is held after marks: descriptions of the functions that look. No program in sight. The law's functions that look whether marks are held: printed by a program of this claim. -/
import Derived.Test.YtaecbmjmcpdgdaaGreatCMk
import Derived.Test.YtaecbmjmcpdgdaaGreatCEd
import Derived.IntWalk
namespace Go.Proofs.YtaecbmjmcpdgdaaGreat.Ab
open Go.RowKit
set_option linter.unusedVariables false
variable {mt : Int → ByteArray}
def spHdn (mt : Int → ByteArray) (e : TypeId) (n : Nat) : FSpec where
  pre args := ∃ (rows : List (List D)) (k : Int), 1 ≤ k ∧ k + cRows rows ≤ 4611686018427387904 ∧ WfD T (.l e) (.l rows) ∧ wD (.l rows) < n ∧ args = [argS e (mkRows mt k rows), .val false [.i .i64 k]]
  res args := match args with
    | [.val _ [.sl _ _ rows], .val _ [.i _ k]] => .val false [.i .i64 (k + cRows rows)]
    | _ => .none
def spHd (mt : Int → ByteArray) (e : TypeId) : FSpec where
  pre args := ∃ (rows : List (List D)) (k : Int), 1 ≤ k ∧ k + cRows rows ≤ 4611686018427387904 ∧ WfD T (.l e) (.l rows) ∧ args = [argS e (mkRows mt k rows), .val false [.i .i64 k]]
  res args := match args with
    | [.val _ [.sl _ _ rows], .val _ [.i _ k]] => .val false [.i .i64 (k + cRows rows)]
    | _ => .none
theorem FOk.held {P : Program} {f : FuncId} {e : TypeId} (h : ∀ n, FOk P T f (spHdn mt e n)) : FOk P T f (spHd mt e) :=
  FOk.lift (s := fun n => spHdn mt e n) h (fun args ⟨rows, k, h1, h2, h3, h4⟩ => ⟨wD (.l rows) + 1, rows, k, h1, h2, h3, Nat.lt_succ_self _, h4⟩) (fun n => rfl)
theorem WfD.at_ {e : TypeId} {ty : Ty} {rows : List (List D)} (h : WfD T (.l e) (.l rows)) (he : T e = some ty) {k : Nat} (hk : k < rows.length) : WfRow T ty.cts (rows.getD k []) := by
  have hrow : rows[k]? = some (rows.getD k []) := by simp [List.getD_eq_getElem?_getD, List.getElem?_eq_getElem hk]
  cases h with
  | nil => exact absurd hk (Nat.not_lt_zero _)
  | sl e ty' rows h1 h2 h3 h4 =>
    obtain rfl := Option.some.inj (h1.symm.trans he)
    exact ⟨h3 k _ hrow, fun j ct d a b => h4 k j ct d _ hrow a b⟩
theorem WfD.short {e : TypeId} {rows : List (List D)} (h : WfD T (.l e) (.l rows)) : rows.length ≤ maxLen := by
  cases h with
  | nil => exact Nat.zero_le _
  | sl e ty' rows h1 h2 h3 h4 => exact h2
theorem WfRow.slW {e : TypeId} {cts : List CT} {r : List D} (h : WfRow T (.l e :: cts) r) : ∃ x r', r = .l x :: r' ∧ WfD T (.l e) (.l x) ∧ WfRow T cts r' := by
  obtain ⟨d, r', rfl, hd, hr⟩ := h.cut
  cases hd with
  | nil => exact ⟨_, _, rfl, .nil e, hr⟩
  | sl _ ty rows a b c d => exact ⟨_, _, rfl, .sl e ty rows a b c d, hr⟩
theorem wrapJ {i n : Nat} (hi : i < n) (hn : n ≤ maxLen) : IntKind.i64.wrap ((i : Int) + 1) = ((i + 1 : Nat) : Int) := by
  simp only [maxLen] at hn
  rw [IntKind.wrap_i64]; omega
theorem snapRZ2 {f : Int → Int → Snap} {r r' a a' : Int} (h : r = r') (h2 : a = a') : f r a = f r' a' := by rw [h, h2]
theorem hdS {a : ByteArray} {p : Prop} (h : (!(a.toList == a.toList)) = true) : p := by simp at h
theorem hdZ {a b : Int} {p : Prop} (e : a = b) (h : (a != b) = true) : p := by subst e; simp at h
end Go.Proofs.YtaecbmjmcpdgdaaGreat.Ab
namespace Go.Proofs.YtaecbmjmcpdgdaaGreat.Ab
open Go.RowKit
set_option linter.unusedVariables false
set_option linter.unusedSimpArgs false
set_option maxRecDepth 100000
set_option maxHeartbeats 2000000
theorem hd43n (mt : Int → ByteArray) (hmt : FOk Tryz.prog T 41 (spMT mt)) (n : Nat) : FOk Tryz.prog T 43 (spHdn mt 3 n) := by
  refine fok (env := envL []) (N := 21) tabT envL_nil mixed Tryz.func43 rfl Tryz.call43 Tryz.ntmps43 ?_
  rintro args ⟨rows, k, h1, h2, wf, hwn, rfl⟩ hwf
  clear hwf
  have hs := wf.short
  refine ⟨by simp, ?_⟩
  rw [Tryz.results43]
  repeat' first
    | (refine And.intro ?_ ?_)
    | (intro h; simp only [reduceCtorEq] at h; done)
    | (intro h)
  all_goals first
    | (show lowEdges _ = true; kernel_rfl) | (show logOk _ _ = true; kernel_rfl) | exact True.intro | exact Or.inr rfl | exact Or.inl rfl
    | skip
  refine awp_loop (Q := _) [0, 1, 5] [] (fun m st => ∃ j : Nat, st = ([argS 3 (mkRows mt k rows), .val false [.i .i64 (k + cRows (rows.take j))], .val false [.i .i64 (j : Int)]], []) ∧ j ≤ rows.length ∧ m = rows.length - j) ?_ ?_
  · refine ⟨rfl, rows.length, 0, ?_, Nat.zero_le _, rfl⟩
    exact congrArg (fun z : Int => (([argS 3 (mkRows mt k rows), .val false [.i .i64 z], .val false [.i .i64 0]], []) : Snap)) (show k = k + ((0 : Nat) : Int) by omega)
  rintro m st ⟨j, rfl, hj, rfl⟩
  have hml := mkRows_length (mt := mt) rows k
  by_cases hge : rows.length ≤ j
  · have ht : rows.take j = rows := List.take_of_length_le (by omega)
    repeat' first
      | (refine And.intro ?_ ?_)
      | (intro h; simp only [reduceCtorEq] at h; done)
      | (intro h; exact absurd (of_decide_eq_true h) (by rw [hml]; omega))
      | (intro h)
    all_goals first
      | (show lowEdges _ = true; kernel_rfl) | (show logOk _ _ = true; kernel_rfl) | exact True.intro | exact Or.inr rfl | exact Or.inl rfl
      | exact rfl
      | exact congrArg (fun z : Int => [CV.i .i64 z]) (by rw [ht, cRows_mk])
      | skip
  have hlt : j < rows.length := by omega
  obtain ⟨x0, r0, hr, hr0⟩ := WfRow.int_ (wf.at_ (show T 3 = some _ from rfl) hlt)
  obtain rfl := hr0.end_
  clear hr0
  have hrow := mkRows_row (mt := mt) (k := k) hlt
  rw [hr] at hrow
  have hc := cRows_next hlt
  have hc2 := cRows_le rows (j + 1)
  rw [hr] at hc
  have hc3 : cRow [.i x0] = 1 + 0 := rfl
  rw [hc3] at hc
  obtain ⟨q, hq⟩ : ∃ q, (k + cRows (rows.take j)) = q := ⟨_, rfl⟩
  have hnext : k + (cRows (rows.take (j + 1)) : Int) = q + 1 := by omega
  have hq1 : 1 ≤ q := by omega
  have hq2 : q + 1 ≤ 4611686018427387904 := by omega
  rw [hq] at hrow
  have hM : (mkRows mt k rows).getD (Int.toNat (j : Int)) [] = [.i (q)] := hrow
  simp only [hq]
  clear hrow hc hc2 hc3
  have hw0 : IntKind.i64.wrap (q + 1) = q + 1 := IntWalk.i64_in _ (by omega)
  repeat' first
    | (refine And.intro ?_ ?_)
    | (rw [hM])
    | (intro h; simp only [reduceCtorEq] at h; done)
    | (rw [hw0])
    | (intro h; exact hdS h)
    | (intro h; exact hdZ rfl h)
    | (intro h; exact absurd (of_decide_eq_true h) (by omega))
    | (intro h; exact absurd (of_decide_eq_false h) (by rw [hml]; omega))
    | (intro h)
  all_goals first
    | (show lowEdges _ = true; kernel_rfl) | (show logOk _ _ = true; kernel_rfl) | exact True.intro | exact Or.inr rfl | exact Or.inl rfl
    | exact rfl
    | with_reducible exact Int.natCast_nonneg _
    | (show (j : Int) < (((mkRows mt k rows)).length : Int); rw [hml]; omega)
    | (show (Int.toNat (j : Int)) < _; rw [hml, Int.toNat_natCast]; exact hlt)
    | exact ⟨_, by omega, by omega, rfl⟩
    | (refine ⟨rows.length - (j + 1), by omega, j + 1, ?_, by omega, rfl⟩
       exact snapRZ2 (f := fun y z => (([argS 3 (mkRows mt k rows), .val false [.i .i64 y], .val false [.i .i64 z]], []) : Snap)) (by first | exact hnext.symm | omega) (wrapJ hlt hs))
    | skip
theorem hd43 (mt : Int → ByteArray) (hmt : FOk Tryz.prog T 41 (spMT mt)) : FOk Tryz.prog T 43 (spHd mt 3) := FOk.held (hd43n mt hmt)
theorem hd59n (mt : Int → ByteArray) (hmt : FOk Tryz.prog T 41 (spMT mt)) (n : Nat) : FOk Tryz.prog T 59 (spHdn mt 9 n) := by
  refine fok (env := envL [(41, (spMT mt))]) (N := 22) tabT (envL_cons hmt envL_nil) mixed Tryz.func59 rfl Tryz.call59 Tryz.ntmps59 ?_
  rintro args ⟨rows, k, h1, h2, wf, hwn, rfl⟩ hwf
  clear hwf
  have hs := wf.short
  refine ⟨by simp, ?_⟩
  rw [Tryz.results59]
  repeat' first
    | (refine And.intro ?_ ?_)
    | (intro h; simp only [reduceCtorEq] at h; done)
    | (intro h)
  all_goals first
    | (show lowEdges _ = true; kernel_rfl) | (show logOk _ _ = true; kernel_rfl) | exact True.intro | exact Or.inr rfl | exact Or.inl rfl
    | skip
  refine awp_loop (Q := _) [0, 1, 5] [] (fun m st => ∃ j : Nat, st = ([argS 9 (mkRows mt k rows), .val false [.i .i64 (k + cRows (rows.take j))], .val false [.i .i64 (j : Int)]], []) ∧ j ≤ rows.length ∧ m = rows.length - j) ?_ ?_
  · refine ⟨rfl, rows.length, 0, ?_, Nat.zero_le _, rfl⟩
    exact congrArg (fun z : Int => (([argS 9 (mkRows mt k rows), .val false [.i .i64 z], .val false [.i .i64 0]], []) : Snap)) (show k = k + ((0 : Nat) : Int) by omega)
  rintro m st ⟨j, rfl, hj, rfl⟩
  have hml := mkRows_length (mt := mt) rows k
  by_cases hge : rows.length ≤ j
  · have ht : rows.take j = rows := List.take_of_length_le (by omega)
    repeat' first
      | (refine And.intro ?_ ?_)
      | (intro h; simp only [reduceCtorEq] at h; done)
      | (intro h; exact absurd (of_decide_eq_true h) (by rw [hml]; omega))
      | (intro h)
    all_goals first
      | (show lowEdges _ = true; kernel_rfl) | (show logOk _ _ = true; kernel_rfl) | exact True.intro | exact Or.inr rfl | exact Or.inl rfl
      | exact rfl
      | exact congrArg (fun z : Int => [CV.i .i64 z]) (by rw [ht, cRows_mk])
      | skip
  have hlt : j < rows.length := by omega
  obtain ⟨x0, r0, hr, hr0⟩ := WfRow.str_ (wf.at_ (show T 9 = some _ from rfl) hlt)
  obtain rfl := hr0.end_
  clear hr0
  have hrow := mkRows_row (mt := mt) (k := k) hlt
  rw [hr] at hrow
  have hc := cRows_next hlt
  have hc2 := cRows_le rows (j + 1)
  rw [hr] at hc
  have hc3 : cRow [.s x0] = 1 + 0 := rfl
  rw [hc3] at hc
  obtain ⟨q, hq⟩ : ∃ q, (k + cRows (rows.take j)) = q := ⟨_, rfl⟩
  have hnext : k + (cRows (rows.take (j + 1)) : Int) = q + 1 := by omega
  have hq1 : 1 ≤ q := by omega
  have hq2 : q + 1 ≤ 4611686018427387904 := by omega
  rw [hq] at hrow
  have hM : (mkRows mt k rows).getD (Int.toNat (j : Int)) [] = [.s (mt (q))] := hrow
  simp only [hq]
  clear hrow hc hc2 hc3
  have hw0 : IntKind.i64.wrap (q + 1) = q + 1 := IntWalk.i64_in _ (by omega)
  repeat' first
    | (refine And.intro ?_ ?_)
    | (rw [hM])
    | (intro h; simp only [reduceCtorEq] at h; done)
    | (rw [hw0])
    | (intro h; exact hdS h)
    | (intro h; exact hdZ rfl h)
    | (intro h; exact absurd (of_decide_eq_true h) (by omega))
    | (intro h; exact absurd (of_decide_eq_false h) (by rw [hml]; omega))
    | (intro h)
  all_goals first
    | (show lowEdges _ = true; kernel_rfl) | (show logOk _ _ = true; kernel_rfl) | exact True.intro | exact Or.inr rfl | exact Or.inl rfl
    | exact rfl
    | with_reducible exact Int.natCast_nonneg _
    | (show (j : Int) < (((mkRows mt k rows)).length : Int); rw [hml]; omega)
    | (show (Int.toNat (j : Int)) < _; rw [hml, Int.toNat_natCast]; exact hlt)
    | exact ⟨_, by omega, by omega, rfl⟩
    | (refine ⟨rows.length - (j + 1), by omega, j + 1, ?_, by omega, rfl⟩
       exact snapRZ2 (f := fun y z => (([argS 9 (mkRows mt k rows), .val false [.i .i64 y], .val false [.i .i64 z]], []) : Snap)) (by first | exact hnext.symm | omega) (wrapJ hlt hs))
    | skip
theorem hd59 (mt : Int → ByteArray) (hmt : FOk Tryz.prog T 41 (spMT mt)) : FOk Tryz.prog T 59 (spHd mt 9) := FOk.held (hd59n mt hmt)
theorem hd84n (mt : Int → ByteArray) (hmt : FOk Tryz.prog T 41 (spMT mt)) (n : Nat) : FOk Tryz.prog T 84 (spHdn mt 133 n) := by
  refine fok (env := envL []) (N := 31) tabT envL_nil mixed Tryz.func84 rfl Tryz.call84 Tryz.ntmps84 ?_
  rintro args ⟨rows, k, h1, h2, wf, hwn, rfl⟩ hwf
  clear hwf
  have hs := wf.short
  refine ⟨by simp, ?_⟩
  rw [Tryz.results84]
  repeat' first
    | (refine And.intro ?_ ?_)
    | (intro h; simp only [reduceCtorEq] at h; done)
    | (intro h)
  all_goals first
    | (show lowEdges _ = true; kernel_rfl) | (show logOk _ _ = true; kernel_rfl) | exact True.intro | exact Or.inr rfl | exact Or.inl rfl
    | skip
  refine awp_loop (Q := _) [0, 1, 5] [] (fun m st => ∃ j : Nat, st = ([argS 133 (mkRows mt k rows), .val false [.i .i64 (k + cRows (rows.take j))], .val false [.i .i64 (j : Int)]], []) ∧ j ≤ rows.length ∧ m = rows.length - j) ?_ ?_
  · refine ⟨rfl, rows.length, 0, ?_, Nat.zero_le _, rfl⟩
    exact congrArg (fun z : Int => (([argS 133 (mkRows mt k rows), .val false [.i .i64 z], .val false [.i .i64 0]], []) : Snap)) (show k = k + ((0 : Nat) : Int) by omega)
  rintro m st ⟨j, rfl, hj, rfl⟩
  have hml := mkRows_length (mt := mt) rows k
  by_cases hge : rows.length ≤ j
  · have ht : rows.take j = rows := List.take_of_length_le (by omega)
    repeat' first
      | (refine And.intro ?_ ?_)
      | (intro h; simp only [reduceCtorEq] at h; done)
      | (intro h; exact absurd (of_decide_eq_true h) (by rw [hml]; omega))
      | (intro h)
    all_goals first
      | (show lowEdges _ = true; kernel_rfl) | (show logOk _ _ = true; kernel_rfl) | exact True.intro | exact Or.inr rfl | exact Or.inl rfl
      | exact rfl
      | exact congrArg (fun z : Int => [CV.i .i64 z]) (by rw [ht, cRows_mk])
      | skip
  have hlt : j < rows.length := by omega
  obtain ⟨x0, r0, hr, hr0⟩ := WfRow.int_ (wf.at_ (show T 133 = some _ from rfl) hlt)
  obtain ⟨x1, r1, rfl, hr1⟩ := WfRow.int_ hr0
  obtain rfl := hr1.end_
  clear hr1
  have hrow := mkRows_row (mt := mt) (k := k) hlt
  rw [hr] at hrow
  have hc := cRows_next hlt
  have hc2 := cRows_le rows (j + 1)
  rw [hr] at hc
  have hc3 : cRow [.i x0, .i x1] = 1 + (1 + 0) := rfl
  rw [hc3] at hc
  obtain ⟨q, hq⟩ : ∃ q, (k + cRows (rows.take j)) = q := ⟨_, rfl⟩
  have hnext : k + (cRows (rows.take (j + 1)) : Int) = q + 1 + 1 := by omega
  have hq1 : 1 ≤ q := by omega
  have hq2 : q + 1 + 1 ≤ 4611686018427387904 := by omega
  rw [hq] at hrow
  have hM : (mkRows mt k rows).getD (Int.toNat (j : Int)) [] = [.i (q), .i (q + 1)] := hrow
  simp only [hq]
  clear hrow hc hc2 hc3
  have hw0 : IntKind.i64.wrap (q + 1) = q + 1 := IntWalk.i64_in _ (by omega)
  have hw1 : IntKind.i64.wrap (q + 1 + 1) = q + 1 + 1 := IntWalk.i64_in _ (by omega)
  repeat' first
    | (refine And.intro ?_ ?_)
    | (rw [hM])
    | (intro h; simp only [reduceCtorEq] at h; done)
    | (rw [hw0])
    | (rw [hw1])
    | (intro h; exact hdS h)
    | (intro h; exact hdZ rfl h)
    | (intro h; exact absurd (of_decide_eq_true h) (by omega))
    | (intro h; exact absurd (of_decide_eq_false h) (by rw [hml]; omega))
    | (intro h)
  all_goals first
    | (show lowEdges _ = true; kernel_rfl) | (show logOk _ _ = true; kernel_rfl) | exact True.intro | exact Or.inr rfl | exact Or.inl rfl
    | exact rfl
    | with_reducible exact Int.natCast_nonneg _
    | (show (j : Int) < (((mkRows mt k rows)).length : Int); rw [hml]; omega)
    | (show (Int.toNat (j : Int)) < _; rw [hml, Int.toNat_natCast]; exact hlt)
    | exact ⟨_, by omega, by omega, rfl⟩
    | (refine ⟨rows.length - (j + 1), by omega, j + 1, ?_, by omega, rfl⟩
       exact snapRZ2 (f := fun y z => (([argS 133 (mkRows mt k rows), .val false [.i .i64 y], .val false [.i .i64 z]], []) : Snap)) (by first | exact hnext.symm | omega) (wrapJ hlt hs))
    | skip
theorem hd84 (mt : Int → ByteArray) (hmt : FOk Tryz.prog T 41 (spMT mt)) : FOk Tryz.prog T 84 (spHd mt 133) := FOk.held (hd84n mt hmt)
theorem hd60n (mt : Int → ByteArray) (hmt : FOk Tryz.prog T 41 (spMT mt)) (n : Nat) : FOk Tryz.prog T 60 (spHdn mt 115 n) := by
  refine fok (env := envL [(43, (spHd mt 3)), (84, (spHd mt 133))]) (N := 31) tabT (envL_cons (hd43 mt hmt) (envL_cons (hd84 mt hmt) envL_nil)) mixed Tryz.func60 rfl Tryz.call60 Tryz.ntmps60 ?_
  rintro args ⟨rows, k, h1, h2, wf, hwn, rfl⟩ hwf
  clear hwf
  have hs := wf.short
  refine ⟨by simp, ?_⟩
  rw [Tryz.results60]
  repeat' first
    | (refine And.intro ?_ ?_)
    | (intro h; simp only [reduceCtorEq] at h; done)
    | (intro h)
  all_goals first
    | (show lowEdges _ = true; kernel_rfl) | (show logOk _ _ = true; kernel_rfl) | exact True.intro | exact Or.inr rfl | exact Or.inl rfl
    | skip
  refine awp_loop (Q := _) [0, 1, 5] [] (fun m st => ∃ j : Nat, st = ([argS 115 (mkRows mt k rows), .val false [.i .i64 (k + cRows (rows.take j))], .val false [.i .i64 (j : Int)]], []) ∧ j ≤ rows.length ∧ m = rows.length - j) ?_ ?_
  · refine ⟨rfl, rows.length, 0, ?_, Nat.zero_le _, rfl⟩
    exact congrArg (fun z : Int => (([argS 115 (mkRows mt k rows), .val false [.i .i64 z], .val false [.i .i64 0]], []) : Snap)) (show k = k + ((0 : Nat) : Int) by omega)
  rintro m st ⟨j, rfl, hj, rfl⟩
  have hml := mkRows_length (mt := mt) rows k
  by_cases hge : rows.length ≤ j
  · have ht : rows.take j = rows := List.take_of_length_le (by omega)
    repeat' first
      | (refine And.intro ?_ ?_)
      | (intro h; simp only [reduceCtorEq] at h; done)
      | (intro h; exact absurd (of_decide_eq_true h) (by rw [hml]; omega))
      | (intro h)
    all_goals first
      | (show lowEdges _ = true; kernel_rfl) | (show logOk _ _ = true; kernel_rfl) | exact True.intro | exact Or.inr rfl | exact Or.inl rfl
      | exact rfl
      | exact congrArg (fun z : Int => [CV.i .i64 z]) (by rw [ht, cRows_mk])
      | skip
  have hlt : j < rows.length := by omega
  obtain ⟨x0, r0, hr, wf0, hr0⟩ := WfRow.slW (wf.at_ (show T 115 = some _ from rfl) hlt)
  obtain ⟨x1, r1, rfl, wf1, hr1⟩ := WfRow.slW hr0
  obtain rfl := hr1.end_
  clear hr1
  have hrow := mkRows_row (mt := mt) (k := k) hlt
  rw [hr] at hrow
  have hm0 : wD (.l x0) < wD (.l rows) := wD_part hlt (j := 0) (by rw [hr]; rfl)
  have hm1 : wD (.l x1) < wD (.l rows) := wD_part hlt (j := 1) (by rw [hr]; rfl)
  have hc := cRows_next hlt
  have hc2 := cRows_le rows (j + 1)
  rw [hr] at hc
  have hc3 : cRow [.l x0, .l x1] = cRows x0 + (cRows x1 + 0) := rfl
  rw [hc3] at hc
  obtain ⟨q, hq⟩ : ∃ q, (k + cRows (rows.take j)) = q := ⟨_, rfl⟩
  have hnext : k + (cRows (rows.take (j + 1)) : Int) = q + cRows x0 + cRows x1 := by omega
  have hq1 : 1 ≤ q := by omega
  have hq2 : q + cRows x0 + cRows x1 ≤ 4611686018427387904 := by omega
  rw [hq] at hrow
  have hM : (mkRows mt k rows).getD (Int.toNat (j : Int)) [] = [.l (mkRows mt (q) x0), .l (mkRows mt (q + cRows x0) x1)] := hrow
  simp only [hq]
  clear hrow hc hc2 hc3
  have hx0 : cRows (([.l (mkRows mt (q) x0), .l (mkRows mt (q + cRows x0) x1)] : List D).getD 0 default).rows = cRows x0 := cRows_mk _ _
  have hx1 : cRows (([.l (mkRows mt (q) x0), .l (mkRows mt (q + cRows x0) x1)] : List D).getD 1 default).rows = cRows x1 := cRows_mk _ _
  repeat' first
    | (refine And.intro ?_ ?_)
    | (rw [hM])
    | (intro h; simp only [reduceCtorEq] at h; done)
    | (rw [hx0])
    | (rw [hx1])
    | (intro h; exact hdS h)
    | (intro h; exact hdZ rfl h)
    | (intro h; exact absurd (of_decide_eq_true h) (by omega))
    | (intro h; exact absurd (of_decide_eq_false h) (by rw [hml]; omega))
    | (intro h)
  all_goals first
    | (show lowEdges _ = true; kernel_rfl) | (show logOk _ _ = true; kernel_rfl) | exact True.intro | exact Or.inr rfl | exact Or.inl rfl
    | exact rfl
    | with_reducible exact Int.natCast_nonneg _
    | (show (j : Int) < (((mkRows mt k rows)).length : Int); rw [hml]; omega)
    | (show (Int.toNat (j : Int)) < _; rw [hml, Int.toNat_natCast]; exact hlt)
    | exact ⟨_, by omega, by omega, rfl⟩
    | exact ⟨x0, q, by omega, by omega, wf0, rfl⟩
    | exact ⟨x1, q + cRows x0, by omega, by omega, wf1, rfl⟩
    | (refine ⟨rows.length - (j + 1), by omega, j + 1, ?_, by omega, rfl⟩
       exact snapRZ2 (f := fun y z => (([argS 115 (mkRows mt k rows), .val false [.i .i64 y], .val false [.i .i64 z]], []) : Snap)) (by first | exact hnext.symm | omega) (wrapJ hlt hs))
    | skip
theorem hd60 (mt : Int → ByteArray) (hmt : FOk Tryz.prog T 41 (spMT mt)) : FOk Tryz.prog T 60 (spHd mt 115) := FOk.held (hd60n mt hmt)
theorem hd058 (mt : Int → ByteArray) : FOk Tryz.prog T 58 (spHdn mt 92 0) := by
  refine fok (env := envL []) (N := 77) tabT envL_nil mixed Tryz.func58 rfl Tryz.call58 Tryz.ntmps58 ?_
  exact fun args ⟨rows, k, h1, h2, wf, hwn, h⟩ => absurd hwn (Nat.not_lt_zero _)
theorem hdS58_ (mt : Int → ByteArray) (hmt : FOk Tryz.prog T 41 (spMT mt)) (n : Nat) (ih : FOk Tryz.prog T 58 (spHdn mt 92 n)) : FOk Tryz.prog T 58 (spHdn mt 92 (n + 1)) := by
  refine fok (env := envL [(41, (spMT mt)), (58, (spHdn mt 92 n)), (59, (spHd mt 9)), (60, (spHd mt 115))]) (N := 77) tabT (envL_cons hmt (envL_cons ih (envL_cons (hd59 mt hmt) (envL_cons (hd60 mt hmt) envL_nil)))) mixed Tryz.func58 rfl Tryz.call58 Tryz.ntmps58 ?_
  rintro args ⟨rows, k, h1, h2, wf, hwn, rfl⟩ hwf
  clear hwf
  have hs := wf.short
  refine ⟨by simp, ?_⟩
  rw [Tryz.results58]
  repeat' first
    | (refine And.intro ?_ ?_)
    | (intro h; simp only [reduceCtorEq] at h; done)
    | (intro h)
  all_goals first
    | (show lowEdges _ = true; kernel_rfl) | (show logOk _ _ = true; kernel_rfl) | exact True.intro | exact Or.inr rfl | exact Or.inl rfl
    | skip
  refine awp_loop (Q := _) [0, 1, 5] [] (fun m st => ∃ j : Nat, st = ([argS 92 (mkRows mt k rows), .val false [.i .i64 (k + cRows (rows.take j))], .val false [.i .i64 (j : Int)]], []) ∧ j ≤ rows.length ∧ m = rows.length - j) ?_ ?_
  · refine ⟨rfl, rows.length, 0, ?_, Nat.zero_le _, rfl⟩
    exact congrArg (fun z : Int => (([argS 92 (mkRows mt k rows), .val false [.i .i64 z], .val false [.i .i64 0]], []) : Snap)) (show k = k + ((0 : Nat) : Int) by omega)
  rintro m st ⟨j, rfl, hj, rfl⟩
  have hml := mkRows_length (mt := mt) rows k
  by_cases hge : rows.length ≤ j
  · have ht : rows.take j = rows := List.take_of_length_le (by omega)
    repeat' first
      | (refine And.intro ?_ ?_)
      | (intro h; simp only [reduceCtorEq] at h; done)
      | (intro h; exact absurd (of_decide_eq_true h) (by rw [hml]; omega))
      | (intro h)
    all_goals first
      | (show lowEdges _ = true; kernel_rfl) | (show logOk _ _ = true; kernel_rfl) | exact True.intro | exact Or.inr rfl | exact Or.inl rfl
      | exact rfl
      | exact congrArg (fun z : Int => [CV.i .i64 z]) (by rw [ht, cRows_mk])
      | skip
  have hlt : j < rows.length := by omega
  obtain ⟨x0, r0, hr, hr0⟩ := WfRow.int_ (wf.at_ (show T 92 = some _ from rfl) hlt)
  obtain ⟨x1, r1, rfl, hr1⟩ := WfRow.int_ hr0
  obtain ⟨x2, r2, rfl, hr2⟩ := WfRow.int_ hr1
  obtain ⟨x3, r3, rfl, hr3⟩ := WfRow.str_ hr2
  obtain ⟨x4, r4, rfl, wf4, hr4⟩ := WfRow.slW hr3
  obtain ⟨x5, r5, rfl, wf5, hr5⟩ := WfRow.slW hr4
  obtain ⟨x6, r6, rfl, wf6, hr6⟩ := WfRow.slW hr5
  obtain rfl := hr6.end_
  clear hr6
  have hrow := mkRows_row (mt := mt) (k := k) hlt
  rw [hr] at hrow
  have hm4 : wD (.l x4) < wD (.l rows) := wD_part hlt (j := 4) (by rw [hr]; rfl)
  have hm5 : wD (.l x5) < wD (.l rows) := wD_part hlt (j := 5) (by rw [hr]; rfl)
  have hm6 : wD (.l x6) < wD (.l rows) := wD_part hlt (j := 6) (by rw [hr]; rfl)
  have hc := cRows_next hlt
  have hc2 := cRows_le rows (j + 1)
  rw [hr] at hc
  have hc3 : cRow [.i x0, .i x1, .i x2, .s x3, .l x4, .l x5, .l x6] = 1 + (1 + (1 + (1 + (cRows x4 + (cRows x5 + (cRows x6 + 0)))))) := rfl
  rw [hc3] at hc
  obtain ⟨q, hq⟩ : ∃ q, (k + cRows (rows.take j)) = q := ⟨_, rfl⟩
  have hnext : k + (cRows (rows.take (j + 1)) : Int) = q + 1 + 1 + 1 + 1 + cRows x4 + cRows x5 + cRows x6 := by omega
  have hq1 : 1 ≤ q := by omega
  have hq2 : q + 1 + 1 + 1 + 1 + cRows x4 + cRows x5 + cRows x6 ≤ 4611686018427387904 := by omega
  rw [hq] at hrow
  have hM : (mkRows mt k rows).getD (Int.toNat (j : Int)) [] = [.i (q), .i (q + 1), .i (q + 1 + 1), .s (mt (q + 1 + 1 + 1)), .l (mkRows mt (q + 1 + 1 + 1 + 1) x4), .l (mkRows mt (q + 1 + 1 + 1 + 1 + cRows x4) x5), .l (mkRows mt (q + 1 + 1 + 1 + 1 + cRows x4 + cRows x5) x6)] := hrow
  simp only [hq]
  clear hrow hc hc2 hc3
  have hw0 : IntKind.i64.wrap (q + 1) = q + 1 := IntWalk.i64_in _ (by omega)
  have hw1 : IntKind.i64.wrap (q + 1 + 1) = q + 1 + 1 := IntWalk.i64_in _ (by omega)
  have hw2 : IntKind.i64.wrap (q + 1 + 1 + 1) = q + 1 + 1 + 1 := IntWalk.i64_in _ (by omega)
  have hw3 : IntKind.i64.wrap (q + 1 + 1 + 1 + 1) = q + 1 + 1 + 1 + 1 := IntWalk.i64_in _ (by omega)
  have hx4 : cRows (([.i (q), .i (q + 1), .i (q + 1 + 1), .s (mt (q + 1 + 1 + 1)), .l (mkRows mt (q + 1 + 1 + 1 + 1) x4), .l (mkRows mt (q + 1 + 1 + 1 + 1 + cRows x4) x5), .l (mkRows mt (q + 1 + 1 + 1 + 1 + cRows x4 + cRows x5) x6)] : List D).getD 4 default).rows = cRows x4 := cRows_mk _ _
  have hx5 : cRows (([.i (q), .i (q + 1), .i (q + 1 + 1), .s (mt (q + 1 + 1 + 1)), .l (mkRows mt (q + 1 + 1 + 1 + 1) x4), .l (mkRows mt (q + 1 + 1 + 1 + 1 + cRows x4) x5), .l (mkRows mt (q + 1 + 1 + 1 + 1 + cRows x4 + cRows x5) x6)] : List D).getD 5 default).rows = cRows x5 := cRows_mk _ _
  have hx6 : cRows (([.i (q), .i (q + 1), .i (q + 1 + 1), .s (mt (q + 1 + 1 + 1)), .l (mkRows mt (q + 1 + 1 + 1 + 1) x4), .l (mkRows mt (q + 1 + 1 + 1 + 1 + cRows x4) x5), .l (mkRows mt (q + 1 + 1 + 1 + 1 + cRows x4 + cRows x5) x6)] : List D).getD 6 default).rows = cRows x6 := cRows_mk _ _
  repeat' first
    | (refine And.intro ?_ ?_)
    | (rw [hM])
    | (intro h; simp only [reduceCtorEq] at h; done)
    | (rw [hw0])
    | (rw [hw1])
    | (rw [hw2])
    | (rw [hw3])
    | (rw [hx4])
    | (rw [hx5])
    | (rw [hx6])
    | (intro h; exact hdS h)
    | (intro h; exact hdZ rfl h)
    | (intro h; exact absurd (of_decide_eq_true h) (by omega))
    | (intro h; exact absurd (of_decide_eq_false h) (by rw [hml]; omega))
    | (intro h)
  all_goals first
    | (show lowEdges _ = true; kernel_rfl) | (show logOk _ _ = true; kernel_rfl) | exact True.intro | exact Or.inr rfl | exact Or.inl rfl
    | exact rfl
    | with_reducible exact Int.natCast_nonneg _
    | (show (j : Int) < (((mkRows mt k rows)).length : Int); rw [hml]; omega)
    | (show (Int.toNat (j : Int)) < _; rw [hml, Int.toNat_natCast]; exact hlt)
    | exact ⟨_, by omega, by omega, rfl⟩
    | exact ⟨x4, q + 1 + 1 + 1 + 1, by omega, by omega, wf4, by omega, rfl⟩
    | exact ⟨x5, q + 1 + 1 + 1 + 1 + cRows x4, by omega, by omega, wf5, rfl⟩
    | exact ⟨x6, q + 1 + 1 + 1 + 1 + cRows x4 + cRows x5, by omega, by omega, wf6, rfl⟩
    | (refine ⟨rows.length - (j + 1), by omega, j + 1, ?_, by omega, rfl⟩
       exact snapRZ2 (f := fun y z => (([argS 92 (mkRows mt k rows), .val false [.i .i64 y], .val false [.i .i64 z]], []) : Snap)) (by first | exact hnext.symm | omega) (wrapJ hlt hs))
    | skip
theorem hd58n (mt : Int → ByteArray) (hmt : FOk Tryz.prog T 41 (spMT mt)) : ∀ n, FOk Tryz.prog T 58 (spHdn mt 92 n)
  | 0 => hd058 mt
  | n + 1 => hdS58_ mt hmt n (hd58n mt hmt n)
theorem hd58 (mt : Int → ByteArray) (hmt : FOk Tryz.prog T 41 (spMT mt)) : FOk Tryz.prog T 58 (spHd mt 92) := FOk.held (hd58n mt hmt)
theorem hd44n (mt : Int → ByteArray) (hmt : FOk Tryz.prog T 41 (spMT mt)) (n : Nat) : FOk Tryz.prog T 44 (spHdn mt 94 n) := by
  refine fok (env := envL [(41, (spMT mt)), (58, (spHd mt 92)), (59, (spHd mt 9)), (60, (spHd mt 115))]) (N := 121) tabT (envL_cons hmt (envL_cons (hd58 mt hmt) (envL_cons (hd59 mt hmt) (envL_cons (hd60 mt hmt) envL_nil)))) mixed Tryz.func44 rfl Tryz.call44 Tryz.ntmps44 ?_
  rintro args ⟨rows, k, h1, h2, wf, hwn, rfl⟩ hwf
  clear hwf
  have hs := wf.short
  refine ⟨by simp, ?_⟩
  rw [Tryz.results44]
  repeat' first
    | (refine And.intro ?_ ?_)
    | (intro h; simp only [reduceCtorEq] at h; done)
    | (intro h)
  all_goals first
    | (show lowEdges _ = true; kernel_rfl) | (show logOk _ _ = true; kernel_rfl) | exact True.intro | exact Or.inr rfl | exact Or.inl rfl
    | skip
  refine awp_loop (Q := _) [0, 1, 5] [] (fun m st => ∃ j : Nat, st = ([argS 94 (mkRows mt k rows), .val false [.i .i64 (k + cRows (rows.take j))], .val false [.i .i64 (j : Int)]], []) ∧ j ≤ rows.length ∧ m = rows.length - j) ?_ ?_
  · refine ⟨rfl, rows.length, 0, ?_, Nat.zero_le _, rfl⟩
    exact congrArg (fun z : Int => (([argS 94 (mkRows mt k rows), .val false [.i .i64 z], .val false [.i .i64 0]], []) : Snap)) (show k = k + ((0 : Nat) : Int) by omega)
  rintro m st ⟨j, rfl, hj, rfl⟩
  have hml := mkRows_length (mt := mt) rows k
  by_cases hge : rows.length ≤ j
  · have ht : rows.take j = rows := List.take_of_length_le (by omega)
    repeat' first
      | (refine And.intro ?_ ?_)
      | (intro h; simp only [reduceCtorEq] at h; done)
      | (intro h; exact absurd (of_decide_eq_true h) (by rw [hml]; omega))
      | (intro h)
    all_goals first
      | (show lowEdges _ = true; kernel_rfl) | (show logOk _ _ = true; kernel_rfl) | exact True.intro | exact Or.inr rfl | exact Or.inl rfl
      | exact rfl
      | exact congrArg (fun z : Int => [CV.i .i64 z]) (by rw [ht, cRows_mk])
      | skip
  have hlt : j < rows.length := by omega
  obtain ⟨x0, r0, hr, hr0⟩ := WfRow.int_ (wf.at_ (show T 94 = some _ from rfl) hlt)
  obtain ⟨x1, r1, rfl, hr1⟩ := WfRow.int_ hr0
  obtain ⟨x2, r2, rfl, hr2⟩ := WfRow.int_ hr1
  obtain ⟨x3, r3, rfl, hr3⟩ := WfRow.str_ hr2
  obtain ⟨x4, r4, rfl, hr4⟩ := WfRow.int_ hr3
  obtain ⟨x5, r5, rfl, hr5⟩ := WfRow.int_ hr4
  obtain ⟨x6, r6, rfl, hr6⟩ := WfRow.int_ hr5
  obtain ⟨x7, r7, rfl, hr7⟩ := WfRow.str_ hr6
  obtain ⟨x8, r8, rfl, wf8, hr8⟩ := WfRow.slW hr7
  obtain ⟨x9, r9, rfl, wf9, hr9⟩ := WfRow.slW hr8
  obtain ⟨x10, r10, rfl, wf10, hr10⟩ := WfRow.slW hr9
  obtain rfl := hr10.end_
  clear hr10
  have hrow := mkRows_row (mt := mt) (k := k) hlt
  rw [hr] at hrow
  have hm8 : wD (.l x8) < wD (.l rows) := wD_part hlt (j := 8) (by rw [hr]; rfl)
  have hm9 : wD (.l x9) < wD (.l rows) := wD_part hlt (j := 9) (by rw [hr]; rfl)
  have hm10 : wD (.l x10) < wD (.l rows) := wD_part hlt (j := 10) (by rw [hr]; rfl)
  have hc := cRows_next hlt
  have hc2 := cRows_le rows (j + 1)
  rw [hr] at hc
  have hc3 : cRow [.i x0, .i x1, .i x2, .s x3, .i x4, .i x5, .i x6, .s x7, .l x8, .l x9, .l x10] = 1 + (1 + (1 + (1 + (1 + (1 + (1 + (1 + (cRows x8 + (cRows x9 + (cRows x10 + 0)))))))))) := rfl
  rw [hc3] at hc
  obtain ⟨q, hq⟩ : ∃ q, (k + cRows (rows.take j)) = q := ⟨_, rfl⟩
  have hnext : k + (cRows (rows.take (j + 1)) : Int) = q + 1 + 1 + 1 + 1 + 1 + 1 + 1 + 1 + cRows x8 + cRows x9 + cRows x10 := by omega
  have hq1 : 1 ≤ q := by omega
  have hq2 : q + 1 + 1 + 1 + 1 + 1 + 1 + 1 + 1 + cRows x8 + cRows x9 + cRows x10 ≤ 4611686018427387904 := by omega
  rw [hq] at hrow
  have hM : (mkRows mt k rows).getD (Int.toNat (j : Int)) [] = [.i (q), .i (q + 1), .i (q + 1 + 1), .s (mt (q + 1 + 1 + 1)), .i (q + 1 + 1 + 1 + 1), .i (q + 1 + 1 + 1 + 1 + 1), .i (q + 1 + 1 + 1 + 1 + 1 + 1), .s (mt (q + 1 + 1 + 1 + 1 + 1 + 1 + 1)), .l (mkRows mt (q + 1 + 1 + 1 + 1 + 1 + 1 + 1 + 1) x8), .l (mkRows mt (q + 1 + 1 + 1 + 1 + 1 + 1 + 1 + 1 + cRows x8) x9), .l (mkRows mt (q + 1 + 1 + 1 + 1 + 1 + 1 + 1 + 1 + cRows x8 + cRows x9) x10)] := hrow
  simp only [hq]
  clear hrow hc hc2 hc3
  have hw0 : IntKind.i64.wrap (q + 1) = q + 1 := IntWalk.i64_in _ (by omega)
  have hw1 : IntKind.i64.wrap (q + 1 + 1) = q + 1 + 1 := IntWalk.i64_in _ (by omega)
  have hw2 : IntKind.i64.wrap (q + 1 + 1 + 1) = q + 1 + 1 + 1 := IntWalk.i64_in _ (by omega)
  have hw3 : IntKind.i64.wrap (q + 1 + 1 + 1 + 1) = q + 1 + 1 + 1 + 1 := IntWalk.i64_in _ (by omega)
  have hw4 : IntKind.i64.wrap (q + 1 + 1 + 1 + 1 + 1) = q + 1 + 1 + 1 + 1 + 1 := IntWalk.i64_in _ (by omega)
  have hw5 : IntKind.i64.wrap (q + 1 + 1 + 1 + 1 + 1 + 1) = q + 1 + 1 + 1 + 1 + 1 + 1 := IntWalk.i64_in _ (by omega)
  have hw6 : IntKind.i64.wrap (q + 1 + 1 + 1 + 1 + 1 + 1 + 1) = q + 1 + 1 + 1 + 1 + 1 + 1 + 1 := IntWalk.i64_in _ (by omega)
  have hw7 : IntKind.i64.wrap (q + 1 + 1 + 1 + 1 + 1 + 1 + 1 + 1) = q + 1 + 1 + 1 + 1 + 1 + 1 + 1 + 1 := IntWalk.i64_in _ (by omega)
  have hx8 : cRows (([.i (q), .i (q + 1), .i (q + 1 + 1), .s (mt (q + 1 + 1 + 1)), .i (q + 1 + 1 + 1 + 1), .i (q + 1 + 1 + 1 + 1 + 1), .i (q + 1 + 1 + 1 + 1 + 1 + 1), .s (mt (q + 1 + 1 + 1 + 1 + 1 + 1 + 1)), .l (mkRows mt (q + 1 + 1 + 1 + 1 + 1 + 1 + 1 + 1) x8), .l (mkRows mt (q + 1 + 1 + 1 + 1 + 1 + 1 + 1 + 1 + cRows x8) x9), .l (mkRows mt (q + 1 + 1 + 1 + 1 + 1 + 1 + 1 + 1 + cRows x8 + cRows x9) x10)] : List D).getD 8 default).rows = cRows x8 := cRows_mk _ _
  have hx9 : cRows (([.i (q), .i (q + 1), .i (q + 1 + 1), .s (mt (q + 1 + 1 + 1)), .i (q + 1 + 1 + 1 + 1), .i (q + 1 + 1 + 1 + 1 + 1), .i (q + 1 + 1 + 1 + 1 + 1 + 1), .s (mt (q + 1 + 1 + 1 + 1 + 1 + 1 + 1)), .l (mkRows mt (q + 1 + 1 + 1 + 1 + 1 + 1 + 1 + 1) x8), .l (mkRows mt (q + 1 + 1 + 1 + 1 + 1 + 1 + 1 + 1 + cRows x8) x9), .l (mkRows mt (q + 1 + 1 + 1 + 1 + 1 + 1 + 1 + 1 + cRows x8 + cRows x9) x10)] : List D).getD 9 default).rows = cRows x9 := cRows_mk _ _
  have hx10 : cRows (([.i (q), .i (q + 1), .i (q + 1 + 1), .s (mt (q + 1 + 1 + 1)), .i (q + 1 + 1 + 1 + 1), .i (q + 1 + 1 + 1 + 1 + 1), .i (q + 1 + 1 + 1 + 1 + 1 + 1), .s (mt (q + 1 + 1 + 1 + 1 + 1 + 1 + 1)), .l (mkRows mt (q + 1 + 1 + 1 + 1 + 1 + 1 + 1 + 1) x8), .l (mkRows mt (q + 1 + 1 + 1 + 1 + 1 + 1 + 1 + 1 + cRows x8) x9), .l (mkRows mt (q + 1 + 1 + 1 + 1 + 1 + 1 + 1 + 1 + cRows x8 + cRows x9) x10)] : List D).getD 10 default).rows = cRows x10 := cRows_mk _ _
  repeat' first
    | (refine And.intro ?_ ?_)
    | (rw [hM])
    | (intro h; simp only [reduceCtorEq] at h; done)
    | (rw [hw0])
    | (rw [hw1])
    | (rw [hw2])
    | (rw [hw3])
    | (rw [hw4])
    | (rw [hw5])
    | (rw [hw6])
    | (rw [hw7])
    | (rw [hx8])
    | (rw [hx9])
    | (rw [hx10])
    | (intro h; exact hdS h)
    | (intro h; exact hdZ rfl h)
    | (intro h; exact absurd (of_decide_eq_true h) (by omega))
    | (intro h; exact absurd (of_decide_eq_false h) (by rw [hml]; omega))
    | (intro h)
  all_goals first
    | (show lowEdges _ = true; kernel_rfl) | (show logOk _ _ = true; kernel_rfl) | exact True.intro | exact Or.inr rfl | exact Or.inl rfl
    | exact rfl
    | with_reducible exact Int.natCast_nonneg _
    | (show (j : Int) < (((mkRows mt k rows)).length : Int); rw [hml]; omega)
    | (show (Int.toNat (j : Int)) < _; rw [hml, Int.toNat_natCast]; exact hlt)
    | exact ⟨_, by omega, by omega, rfl⟩
    | exact ⟨x8, q + 1 + 1 + 1 + 1 + 1 + 1 + 1 + 1, by omega, by omega, wf8, rfl⟩
    | exact ⟨x9, q + 1 + 1 + 1 + 1 + 1 + 1 + 1 + 1 + cRows x8, by omega, by omega, wf9, rfl⟩
    | exact ⟨x10, q + 1 + 1 + 1 + 1 + 1 + 1 + 1 + 1 + cRows x8 + cRows x9, by omega, by omega, wf10, rfl⟩
    | (refine ⟨rows.length - (j + 1), by omega, j + 1, ?_, by omega, rfl⟩
       exact snapRZ2 (f := fun y z => (([argS 94 (mkRows mt k rows), .val false [.i .i64 y], .val false [.i .i64 z]], []) : Snap)) (by first | exact hnext.symm | omega) (wrapJ hlt hs))
    | skip
theorem hd44 (mt : Int → ByteArray) (hmt : FOk Tryz.prog T 41 (spMT mt)) : FOk Tryz.prog T 44 (spHd mt 94) := FOk.held (hd44n mt hmt)
end Go.Proofs.YtaecbmjmcpdgdaaGreat.Ab
