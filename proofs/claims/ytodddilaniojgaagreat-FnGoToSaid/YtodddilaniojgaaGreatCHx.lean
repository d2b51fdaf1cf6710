/- Paths, exactly: printed by a program of this claim. -/
import Derived.Test.YtodddilaniojgaaGreatCHw
import Derived.Test.YtodddilaniojgaaGreatCHy
namespace Go.Proofs.YtodddilaniojgaaGreat.Ab
open Go.RowKit
set_option linter.unusedVariables false
set_option linter.unusedSimpArgs false
set_option maxRecDepth 100000
set_option maxHeartbeats 2000000
theorem xk39 : FOk Tryz.prog T 39 (spHas 3) := by
  refine fok (env := envL []) (N := 18) tabT envL_nil mixed Tryz.func39 rfl Tryz.call39 Tryz.ntmps39 ?_
  rintro args ⟨p, x, rfl⟩ hwf
  have hl : p.length ≤ maxLen := (show WfD T (.l 3) (.l p) from arg0 hwf (List.mem_singleton_self _)).len
  refine ⟨by simp, ?_⟩
  clear hwf
  rw [Tryz.results39]
  repeat' first
    | (refine And.intro ?_ ?_)
    | (intro h; simp only [reduceCtorEq] at h; done)
    | (intro h; rw [h])
    | (intro h)
  all_goals first
    | (show lowEdges _ = true; kernel_rfl) | (show logOk _ _ = true; kernel_rfl) | exact True.intro | exact Or.inr rfl | exact Or.inl rfl
    | skip
  refine awp_loop (Q := _) [0, 1, 5] [] (fun n st => ∃ i : Nat, st = ([argS 3 p, iA x, .val false [.i .i64 (i : Int)]], []) ∧ (∀ j, j < i → (!(iAt (rAt p j) 0 == x)) = true) ∧ i ≤ p.length ∧ n = p.length - i) ?_ ?_
  · exact ⟨rfl, p.length, 0, rfl, nolt _, Nat.zero_le _, rfl⟩
  rintro n st ⟨i, rfl, hI, hle, rfl⟩
  repeat' first
    | (refine And.intro ?_ ?_)
    | (intro h; simp only [reduceCtorEq] at h; done)
    | (intro h; rw [h])
    | (intro h)
  all_goals first
    | (show lowEdges _ = true; kernel_rfl) | (show logOk _ _ = true; kernel_rfl) | exact True.intro | exact Or.inr rfl | exact Or.inl rfl
    | with_reducible exact Int.natCast_nonneg _
    | (have hi : i < p.length := ltN (by with_reducible assumption)
       first
         | with_reducible exact of_decide_eq_true (by with_reducible assumption)
         | (show (Int.toNat (i : Int)) < _; rw [Int.toNat_natCast]; exact hi)
         | (show (i : Int) < _; omega)
           | exact resBn (P := fun j => !(iAt (rAt p j) 0 == x)) hi (notT (b := iAt (rAt p i) 0 == x) (by with_reducible assumption))
           | exact resBm (P := fun j => !(iAt (rAt p j) 0 == x)) hI hi
           | (refine ⟨p.length - (i + 1), by omega, i + 1, ?_, all_succ hI (P := fun j => (!(iAt (rAt p j) 0 == x))) ?_, by omega, rfl⟩
              · exact congrArg (fun z : Int => (([argS 3 p, iA x, .val false [.i .i64 z]], []) : Snap)) (wrapN hi hl)
              · exact notF (b := iAt (rAt p i) 0 == x) (by with_reducible assumption)))
    | (have hi : ¬ i < p.length := nltN (by with_reducible assumption)
       first
           | exact resBn (P := fun j => !(iAt (rAt p j) 0 == x)) hi (notT (b := iAt (rAt p i) 0 == x) (by with_reducible assumption))
           | exact resBm (P := fun j => !(iAt (rAt p j) 0 == x)) hI hi
           | (refine ⟨p.length - (i + 1), by omega, i + 1, ?_, all_succ hI (P := fun j => (!(iAt (rAt p j) 0 == x))) ?_, by omega, rfl⟩
              · exact congrArg (fun z : Int => (([argS 3 p, iA x, .val false [.i .i64 z]], []) : Snap)) (wrapN hi hl)
              · exact notF (b := iAt (rAt p i) 0 == x) (by with_reducible assumption)))
    | (show Alive _ _; exact rfl)
    | exact absurd (show (!false) = false by with_reducible assumption) (by decide)
    | exact absurd (show (!true) = true by with_reducible assumption) (by decide)
    | skip
theorem xk37 : FOk Tryz.prog T 37 (spHas 3) := by
  refine fok (env := envL []) (N := 17) tabT envL_nil mixed Tryz.func37 rfl Tryz.call37 Tryz.ntmps37 ?_
  rintro args ⟨p, x, rfl⟩ hwf
  have hl : p.length ≤ maxLen := (show WfD T (.l 3) (.l p) from arg0 hwf (List.mem_singleton_self _)).len
  refine ⟨by simp, ?_⟩
  clear hwf
  rw [Tryz.results37]
  repeat' first
    | (refine And.intro ?_ ?_)
    | (intro h; simp only [reduceCtorEq] at h; done)
    | (intro h; rw [h])
    | (intro h)
  all_goals first
    | (show lowEdges _ = true; kernel_rfl) | (show logOk _ _ = true; kernel_rfl) | exact True.intro | exact Or.inr rfl | exact Or.inl rfl
    | skip
  refine awp_loop (Q := _) [1, 7, 8, 9] [] (fun n st => ∃ i : Nat, st = ([iA x, argS 3 p, .val false [.i .i64 p.length], .val false [.i .i64 (i : Int)]], []) ∧ (∀ j, j < i → (!(iAt (rAt p j) 0 == x)) = true) ∧ i ≤ p.length ∧ n = p.length - i) ?_ ?_
  · exact ⟨rfl, p.length, 0, rfl, nolt _, Nat.zero_le _, rfl⟩
  rintro n st ⟨i, rfl, hI, hle, rfl⟩
  repeat' first
    | (refine And.intro ?_ ?_)
    | (intro h; simp only [reduceCtorEq] at h; done)
    | (intro h; rw [h])
    | (intro h)
  all_goals first
    | (show lowEdges _ = true; kernel_rfl) | (show logOk _ _ = true; kernel_rfl) | exact True.intro | exact Or.inr rfl | exact Or.inl rfl
    | with_reducible exact Int.natCast_nonneg _
    | (have hi : i < p.length := ltN (by with_reducible assumption)
       first
         | with_reducible exact of_decide_eq_true (by with_reducible assumption)
         | (show (Int.toNat (i : Int)) < _; rw [Int.toNat_natCast]; exact hi)
         | (show (i : Int) < _; omega)
           | exact resBn (P := fun j => !(iAt (rAt p j) 0 == x)) hi (notT (b := iAt (rAt p i) 0 == x) (by with_reducible assumption))
           | exact resBm (P := fun j => !(iAt (rAt p j) 0 == x)) hI hi
           | (refine ⟨p.length - (i + 1), by omega, i + 1, ?_, all_succ hI (P := fun j => (!(iAt (rAt p j) 0 == x))) ?_, by omega, rfl⟩
              · exact congrArg (fun z : Int => (([iA x, argS 3 p, .val false [.i .i64 p.length], .val false [.i .i64 z]], []) : Snap)) (wrapN hi hl)
              · exact notF (b := iAt (rAt p i) 0 == x) (by with_reducible assumption)))
    | (have hi : ¬ i < p.length := nltN (by with_reducible assumption)
       first
           | exact resBn (P := fun j => !(iAt (rAt p j) 0 == x)) hi (notT (b := iAt (rAt p i) 0 == x) (by with_reducible assumption))
           | exact resBm (P := fun j => !(iAt (rAt p j) 0 == x)) hI hi
           | (refine ⟨p.length - (i + 1), by omega, i + 1, ?_, all_succ hI (P := fun j => (!(iAt (rAt p j) 0 == x))) ?_, by omega, rfl⟩
              · exact congrArg (fun z : Int => (([iA x, argS 3 p, .val false [.i .i64 p.length], .val false [.i .i64 z]], []) : Snap)) (wrapN hi hl)
              · exact notF (b := iAt (rAt p i) 0 == x) (by with_reducible assumption)))
    | (show Alive _ _; exact rfl)
    | exact absurd (show (!false) = false by with_reducible assumption) (by decide)
    | exact absurd (show (!true) = true by with_reducible assumption) (by decide)
    | skip
theorem xk38 : FOk Tryz.prog T 38 (spPth 72 55 3) := by
  refine fok (env := envL [(29, (spOkH 72 55)), (54, spIn)]) (N := 33) tabT (envL_cons xk29 (envL_cons xk54 envL_nil)) mixed Tryz.func38 rfl Tryz.call38 Tryz.ntmps38 ?_
  rintro args ⟨l, ns, at_, k, hs, rfl⟩ hwf
  have hl : l.length ≤ 1048576 := hs.1
  have hn : ns.length ≤ 1000 := hs.2.1
  have hw : IntKind.i64.wrap ((ns.length : Int) - 1) = (ns.length : Int) - 1 := IntWalk.i64_in _ (by omega)
  refine ⟨by simp, ?_⟩
  clear hwf
  rw [Tryz.results38]
  repeat' first
    | (refine And.intro ?_ ?_)
    | (intro h; simp only [reduceCtorEq] at h; done)
    | (intro h; rw [h])
    | (intro h)
  all_goals first
    | (show lowEdges _ = true; kernel_rfl) | (show logOk _ _ = true; kernel_rfl) | exact True.intro | exact Or.inr rfl | exact Or.inl rfl
    | exact ⟨_, _, _, rfl⟩
    | (rw [pth_no1 (h := (l, ns, at_)) (by with_reducible assumption)]; rfl)
    | (rw [pth_no2 (h := (l, ns, at_)) (k := k) (by rw [← hw]; with_reducible assumption)]; rfl)
    | skip
  have hok : okH (l, ns, at_) = true := of_notF (by with_reducible assumption)
  have hpe : pthE (l, ns, at_) k = pthI ns 21 k := pth_yes (h := (l, ns, at_)) (by with_reducible assumption) (by rw [← hw]; with_reducible assumption)
  have hkk := k_in (n := (ns.length : Int)) (k := k) (a := 0) (by decide) (by rw [← hw]; with_reducible assumption)
  have hol := okH_len hok
  have hol2 : ns.length ≤ 20 := hol.2.1
  clear hw
  refine awp_loop (Q := _) [1, 2, 5] [2] (fun n st => ∃ (m : Nat) (x : Int) (acc : List (List D)), st = ([iA x, .ptr 2 1 0, .val false [.sl true 3 (acc)]], [(1, [.val false [.sl false 72 l], .val false [.sl false 55 ns], .val false [.i .i64 at_]])]) ∧ intR (pthE (l, ns, at_) k) = intR (pthI ns m x) ++ acc ∧ x + 1 ≤ m ∧ -1 ≤ x ∧ x < (ns.length : Int) ∧ (acc.length : Int) + x ≤ 1000 ∧ n = (x + 1).toNat) ?_ ?_
  · exact ⟨rfl, (k + 1).toNat, 21, k, [], rfl, by rw [hpe, List.append_nil], by omega, by omega, hkk.2, by simp; omega, rfl⟩
  rintro n st ⟨m, x, acc, rfl, hB, h1, h2, h3, h4, rfl⟩
  repeat' first
    | (refine And.intro ?_ ?_)
    | (intro h; simp only [reduceCtorEq] at h; done)
    | (intro h; rw [h])
    | (intro h)
  all_goals first
    | (show lowEdges _ = true; kernel_rfl) | (show logOk _ _ = true; kernel_rfl) | exact True.intro | exact Or.inr rfl | exact Or.inl rfl
    | (have hx : 0 ≤ x := of_decide_eq_true (show decide (x ≥ 0) = true by with_reducible assumption)
       have hp := okH_par (h := (l, ns, at_)) hok hx h3
       have hp2 : -1 ≤ parI ns x ∧ parI ns x < x := by
         rcases hp with ⟨e1, e2⟩ | ⟨e1, e2, e3⟩
         · have e2 : parI ns x = -1 := e2
           omega
         · exact ⟨Int.le_trans (by decide) e2, e3⟩
       first
         | exact hx
         | exact h3
         | (simp only [List.length_append, List.length_cons, List.length_nil, maxLen]; omega)
         | (simp only [List.length_append, List.length_cons, List.length_nil]; omega)
         | (obtain ⟨m', rfl, e4⟩ := pth_next (ns := ns) (n := m) (acc := acc) hx h1
            exact ⟨(parI ns x + 1).toNat, by omega, m', parI ns x, [] ++ [[.i x]] ++ acc, rfl, hB.trans e4, by omega, hp2.1, by omega, by simp only [List.length_append, List.length_cons, List.length_nil]; omega, rfl⟩))
    | (have hx : ¬ 0 ≤ x := of_decide_eq_false (show decide (x ≥ 0) = false by with_reducible assumption)
       rw [pthI_neg (by omega)] at hB
       exact congrArg (fun z => [CV.sl false 3 z]) hB.symm)
    | (show Alive _ _; exact rfl)
    | skip
theorem xk17 : FOk Tryz.prog T 17 (spPth 72 55 3) := by
  refine fok (env := envL [(12, (spOkH 72 55)), (32, spIn)]) (N := 32) tabT (envL_cons xk12 (envL_cons xk32 envL_nil)) mixed Tryz.func17 rfl Tryz.call17 Tryz.ntmps17 ?_
  rintro args ⟨l, ns, at_, k, hs, rfl⟩ hwf
  have hl : l.length ≤ 1048576 := hs.1
  have hn : ns.length ≤ 1000 := hs.2.1
  have hw : IntKind.i64.wrap ((ns.length : Int) - 1) = (ns.length : Int) - 1 := IntWalk.i64_in _ (by omega)
  refine ⟨by simp, ?_⟩
  clear hwf
  rw [Tryz.results17]
  repeat' first
    | (refine And.intro ?_ ?_)
    | (intro h; simp only [reduceCtorEq] at h; done)
    | (intro h; rw [h])
    | (intro h)
  all_goals first
    | (show lowEdges _ = true; kernel_rfl) | (show logOk _ _ = true; kernel_rfl) | exact True.intro | exact Or.inr rfl | exact Or.inl rfl
    | exact ⟨_, _, _, rfl⟩
    | (rw [pth_no1 (h := (l, ns, at_)) (by with_reducible assumption)]; rfl)
    | (rw [pth_no2 (h := (l, ns, at_)) (k := k) (by rw [← hw]; with_reducible assumption)]; rfl)
    | skip
  have hok : okH (l, ns, at_) = true := of_notF (by with_reducible assumption)
  have hpe : pthE (l, ns, at_) k = pthI ns 21 k := pth_yes (h := (l, ns, at_)) (by with_reducible assumption) (by rw [← hw]; with_reducible assumption)
  have hkk := k_in (n := (ns.length : Int)) (k := k) (a := 0) (by decide) (by rw [← hw]; with_reducible assumption)
  have hol := okH_len hok
  have hol2 : ns.length ≤ 20 := hol.2.1
  clear hw
  refine awp_loop (Q := _) [1, 2, 5] [2] (fun n st => ∃ (m : Nat) (x : Int) (acc : List (List D)), st = ([iA x, .ptr 2 1 0, .val false [.sl true 3 (acc)]], [(1, [.val false [.sl false 72 l], .val false [.sl false 55 ns], .val false [.i .i64 at_]])]) ∧ intR (pthE (l, ns, at_) k) = intR (pthI ns m x) ++ acc ∧ x + 1 ≤ m ∧ -1 ≤ x ∧ x < (ns.length : Int) ∧ (acc.length : Int) + x ≤ 1000 ∧ n = (x + 1).toNat) ?_ ?_
  · exact ⟨rfl, (k + 1).toNat, 21, k, [], rfl, by rw [hpe, List.append_nil], by omega, by omega, hkk.2, by simp; omega, rfl⟩
  rintro n st ⟨m, x, acc, rfl, hB, h1, h2, h3, h4, rfl⟩
  repeat' first
    | (refine And.intro ?_ ?_)
    | (intro h; simp only [reduceCtorEq] at h; done)
    | (intro h; rw [h])
    | (intro h)
  all_goals first
    | (show lowEdges _ = true; kernel_rfl) | (show logOk _ _ = true; kernel_rfl) | exact True.intro | exact Or.inr rfl | exact Or.inl rfl
    | (have hx : 0 ≤ x := of_decide_eq_true (show decide (x ≥ 0) = true by with_reducible assumption)
       have hp := okH_par (h := (l, ns, at_)) hok hx h3
       have hp2 : -1 ≤ parI ns x ∧ parI ns x < x := by
         rcases hp with ⟨e1, e2⟩ | ⟨e1, e2, e3⟩
         · have e2 : parI ns x = -1 := e2
           omega
         · exact ⟨Int.le_trans (by decide) e2, e3⟩
       first
         | exact hx
         | exact h3
         | (simp only [List.length_append, List.length_cons, List.length_nil, maxLen]; omega)
         | (simp only [List.length_append, List.length_cons, List.length_nil]; omega)
         | (obtain ⟨m', rfl, e4⟩ := pth_next (ns := ns) (n := m) (acc := acc) hx h1
            exact ⟨(parI ns x + 1).toNat, by omega, m', parI ns x, [] ++ [[.i x]] ++ acc, rfl, hB.trans e4, by omega, hp2.1, by omega, by simp only [List.length_append, List.length_cons, List.length_nil]; omega, rfl⟩))
    | (have hx : ¬ 0 ≤ x := of_decide_eq_false (show decide (x ≥ 0) = false by with_reducible assumption)
       rw [pthI_neg (by omega)] at hB
       exact congrArg (fun z => [CV.sl false 3 z]) hB.symm)
    | (show Alive _ _; exact rfl)
    | skip
end Go.Proofs.YtodddilaniojgaaGreat.Ab
