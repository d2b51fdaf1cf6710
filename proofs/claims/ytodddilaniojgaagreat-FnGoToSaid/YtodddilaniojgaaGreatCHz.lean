/- Going to a node, exactly: printed by a program of this claim. -/
import Derived.Test.YtodddilaniojgaaGreatCHx
namespace Go.Proofs.YtodddilaniojgaaGreat.Ab
open Go.RowKit
set_option linter.unusedVariables false
set_option linter.unusedSimpArgs false
set_option maxRecDepth 100000
set_option maxHeartbeats 2000000
theorem xk16 : FOk Tryz.prog T 16 (spGo 72 55) := by
  refine fok (env := envL [(38, (spPth 72 55 3)), (26, (spCpH 72 55)), (39, (spHas 3)), (40, (spUn 72 55)), (41, (spRe 72 55))]) (N := 68) tabT (envL_cons xk38 (envL_cons xk26 (envL_cons xk39 (envL_cons xk40 (envL_cons xk41 envL_nil))))) mixed Tryz.func16 rfl Tryz.call16 Tryz.ntmps16 ?_
  rintro args ⟨l, ns, at_, k, hs, rfl⟩ hwf
  have hl : l.length ≤ 1048576 := hs.1
  have hn : ns.length ≤ 1000 := hs.2.1
  refine ⟨by simp, ?_⟩
  clear hwf
  rw [Tryz.results16]
  repeat' first
    | (refine And.intro ?_ ?_)
    | (intro h; simp only [reduceCtorEq] at h; done)
    | (intro h; rw [h])
    | (intro h)
  all_goals first
    | (show lowEdges _ = true; kernel_rfl) | (show logOk _ _ = true; kernel_rfl) | exact True.intro | exact Or.inr rfl | exact Or.inl rfl
    | exact ⟨_, _, _, _, hs, rfl⟩
    | exact ⟨_, _, _, hs, rfl⟩
    | exact congrArg (tupH 72 55) (goE_nil (h := (l, ns, at_)) (k := k) (len0 h)).symm
    | skip
  have hp0 : (pthE (l, ns, at_) k).length ≠ 0 := len1 (by with_reducible assumption)
  obtain ⟨hok, hk0, hk1, _⟩ := pth_open hp0
  obtain ⟨q, hq1, hpw, hq3, hq4⟩ := pth_spec hp0
  have hol := okH_len hok
  have hol2 : ns.length ≤ 20 := hol.2.1
  have hol3 : 0 ≤ at_ := hol.2.2.1
  have hol4 : at_ < (ns.length : Int) := hol.2.2.2.1
  have hpl := intR_len (pthE (l, ns, at_) k)
  have hpm : (intR (pthE (l, ns, at_) k)).length ≤ maxLen := by
    have h1 : (pthE (l, ns, at_) k).length ≤ 21 := pth_len _ _
    rw [hpl]; simp only [maxLen]; omega
  refine awp_loop (Q := _) [2, 4, 6, 7] [2, 4, 7] (fun n st => ∃ (m : Nat) (o : Bool) (l2 ns2 : List (List D)) (a2 : Int), st = ([.ptr 2 1 0, .ptr 4 1 0, .val false [.sl false 3 (intR (pthE (l, ns, at_) k))], .ptr 7 1 0], [(1, [.val false [.sl false 72 l], .val false [.sl false 55 ns], .val false [.i .i64 at_]]), (1, [.val false [.sl true 72 []], .val false [.sl true 55 []], .val false [.i .i64 0]]), (1, [.val false [.sl o 72 l2], .val false [.sl o 55 ns2], .val false [.i .i64 a2]])]) ∧ goU (pthE (l, ns, at_) k) 21 (l, ns, at_) = goU (pthE (l, ns, at_) k) m (l2, ns2, a2) ∧ SmH (l2, ns2, a2) ∧ a2 + 1 ≤ m ∧ 0 ≤ a2 ∧ n = m) ?_ ?_
  · exact ⟨rfl, 21, 21, true, l, ns, at_, rfl, rfl, hs, by omega, hol3, rfl⟩
  rintro n st ⟨m, o, l2, ns2, a2, rfl, hU, hs2, hm, ha, hnm⟩
  cases o
  all_goals
    repeat' first
      | (refine And.intro ?_ ?_)
      | (intro h; simp only [reduceCtorEq] at h; done)
      | (intro h; rw [h])
      | (intro h)
  all_goals first
    | (show lowEdges _ = true; kernel_rfl) | (show logOk _ _ = true; kernel_rfl) | exact True.intro | exact Or.inr rfl | exact Or.inl rfl
    | exact ⟨_, _, rfl⟩
    | exact ⟨_, _, _, hs2, rfl⟩
    | exact ⟨_, _, _, hs, rfl⟩
    | exact congrArg (tupH 72 55) (goE_no (h := (l, ns, at_)) (k := k) (hU.trans (goU_no (h := (l2, ns2, a2)) (by with_reducible assumption) (by with_reducible assumption)))).symm
    | (have hu := unE_ok (h := (l2, ns2, a2)) (of_notF (by with_reducible assumption))
       have e1 := hu.2.2.2.1
       have e2 : (unE (l2, ns2, a2)).1.2.2 < a2 := hu.2.2.2.2
       exact ⟨m - 1, by omega, m - 1, false, (unE (l2, ns2, a2)).1.1, (unE (l2, ns2, a2)).1.2.1, (unE (l2, ns2, a2)).1.2.2, rfl, hU.trans (goU_next (h := (l2, ns2, a2)) (by omega) (by with_reducible assumption) (by with_reducible assumption)), hs2.un, by omega, e1, rfl⟩)
    | (show Alive _ _; exact rfl)
    | skip
  all_goals (
    have hU2 : goU (pthE (l, ns, at_) k) 21 (l, ns, at_) = some (l2, ns2, a2) := hU.trans (goU_has (h := (l2, ns2, a2)) (by omega) (by with_reducible assumption))
    have hmem : a2 ∈ (pthE (l, ns, at_) k) := hasI_iff.1 (of_notF (by with_reducible assumption))
    refine awp_loop (Q := _) [2, 4, 6, 7, 10, 11] [2, 4, 7] (fun n st => ∃ (i : Nat) (o : Bool) (l3 ns3 : List (List D)) (a3 : Int), st = ([.ptr 2 1 0, .ptr 4 1 0, .val false [.sl false 3 (intR (pthE (l, ns, at_) k))], .ptr 7 1 0, iA a2, iA (i : Int)], [(1, [.val false [.sl false 72 l], .val false [.sl false 55 ns], .val false [.i .i64 at_]]), (1, [.val false [.sl true 72 []], .val false [.sl true 55 []], .val false [.i .i64 0]]), (1, [.val false [.sl o 72 l3], .val false [.sl o 55 ns3], .val false [.i .i64 a3]])]) ∧ goR a2 (pthE (l, ns, at_) k) (l2, ns2, a2) = goR a2 ((pthE (l, ns, at_) k).drop i) (l3, ns3, a3) ∧ SmH (l3, ns3, a3) ∧ i ≤ (intR (pthE (l, ns, at_) k)).length ∧ n = (intR (pthE (l, ns, at_) k)).length - i) ?_ ?_
    · first
        | exact ⟨rfl, (intR (pthE (l, ns, at_) k)).length, 0, true, l2, ns2, a2, rfl, rfl, hs2, Nat.zero_le _, rfl⟩
        | exact ⟨rfl, (intR (pthE (l, ns, at_) k)).length, 0, false, l2, ns2, a2, rfl, rfl, hs2, Nat.zero_le _, rfl⟩
    rintro n st ⟨i, o, l3, ns3, a3, rfl, hB, hs3, hle, rfl⟩
    cases o
    all_goals
      repeat' first
        | (refine And.intro ?_ ?_)
        | (intro h; simp only [reduceCtorEq] at h; done)
        | (intro h; rw [h])
        | (intro h)
    all_goals first
      | (show lowEdges _ = true; kernel_rfl) | (show logOk _ _ = true; kernel_rfl) | exact True.intro | exact Or.inr rfl | exact Or.inl rfl
      | with_reducible exact Int.natCast_nonneg _
      | exact ⟨_, _, _, _, hs3, rfl⟩
      | exact ⟨_, _, _, hs, rfl⟩
      | (have hi : i < (intR (pthE (l, ns, at_) k)).length := ltN (by with_reducible assumption)
         have hi2 : i < (pthE (l, ns, at_) k).length := by rw [← hpl]; exact hi
         have hx : iAt (rAt (intR (pthE (l, ns, at_) k)) i) 0 = gI (pthE (l, ns, at_) k) i := rAt_int hi2
         first
           | with_reducible exact of_decide_eq_true (by with_reducible assumption)
           | (show (i : Int) < _; omega)
           | (have h1 : gI (pthE (l, ns, at_) k) i ≤ a2 := by rw [← hx]; exact of_decide_eq_true (show decide (iAt (rAt (intR (pthE (l, ns, at_) k)) i) 0 ≤ a2) = true by with_reducible assumption)
              first
                | exact ⟨(intR (pthE (l, ns, at_) k)).length - (i + 1), by omega, i + 1, true, l3, ns3, a3, congrArg (fun z : Int => (([.ptr 2 1 0, .ptr 4 1 0, .val false [.sl false 3 (intR (pthE (l, ns, at_) k))], .ptr 7 1 0, iA a2, iA z], [(1, [.val false [.sl false 72 l], .val false [.sl false 55 ns], .val false [.i .i64 at_]]), (1, [.val false [.sl true 72 []], .val false [.sl true 55 []], .val false [.i .i64 0]]), (1, [.val false [.sl true 72 l3], .val false [.sl true 55 ns3], .val false [.i .i64 a3]])]) : Snap)) (wrapN hi hpm), hB.trans (goR_skip hi2 h1), hs3, by omega, rfl⟩
                | exact ⟨(intR (pthE (l, ns, at_) k)).length - (i + 1), by omega, i + 1, false, l3, ns3, a3, congrArg (fun z : Int => (([.ptr 2 1 0, .ptr 4 1 0, .val false [.sl false 3 (intR (pthE (l, ns, at_) k))], .ptr 7 1 0, iA a2, iA z], [(1, [.val false [.sl false 72 l], .val false [.sl false 55 ns], .val false [.i .i64 at_]]), (1, [.val false [.sl true 72 []], .val false [.sl true 55 []], .val false [.i .i64 0]]), (1, [.val false [.sl false 72 l3], .val false [.sl false 55 ns3], .val false [.i .i64 a3]])]) : Snap)) (wrapN hi hpm), hB.trans (goR_skip hi2 h1), hs3, by omega, rfl⟩)
           | (have h1 : ¬ gI (pthE (l, ns, at_) k) i ≤ a2 := by rw [← hx]; exact of_decide_eq_false (show decide (iAt (rAt (intR (pthE (l, ns, at_) k)) i) 0 ≤ a2) = false by with_reducible assumption)
              first
                | (have h2 : (!(reE (l3, ns3, a3) (iAt (rAt (intR (pthE (l, ns, at_) k)) i) 0)).2) = true := h
                   rw [hx] at h2
                   exact congrArg (tupH 72 55) (goE_no2 (h := (l, ns, at_)) (k := k) hU2 (hB.trans (goR_no hi2 h1 h2))).symm)
                | (have h2 : (!(reE (l3, ns3, a3) (iAt (rAt (intR (pthE (l, ns, at_) k)) i) 0)).2) = false := h
                   refine ⟨(intR (pthE (l, ns, at_) k)).length - (i + 1), by omega, i + 1, false, (reE (l3, ns3, a3) (iAt (rAt (intR (pthE (l, ns, at_) k)) i) 0)).1.1, (reE (l3, ns3, a3) (iAt (rAt (intR (pthE (l, ns, at_) k)) i) 0)).1.2.1, (reE (l3, ns3, a3) (iAt (rAt (intR (pthE (l, ns, at_) k)) i) 0)).1.2.2, congrArg (fun z : Int => (([.ptr 2 1 0, .ptr 4 1 0, .val false [.sl false 3 (intR (pthE (l, ns, at_) k))], .ptr 7 1 0, iA a2, iA z], [(1, [.val false [.sl false 72 l], .val false [.sl false 55 ns], .val false [.i .i64 at_]]), (1, [.val false [.sl true 72 []], .val false [.sl true 55 []], .val false [.i .i64 0]]), (1, [.val false [.sl false 72 (reE (l3, ns3, a3) (iAt (rAt (intR (pthE (l, ns, at_) k)) i) 0)).1.1], .val false [.sl false 55 (reE (l3, ns3, a3) (iAt (rAt (intR (pthE (l, ns, at_) k)) i) 0)).1.2.1], .val false [.i .i64 (reE (l3, ns3, a3) (iAt (rAt (intR (pthE (l, ns, at_) k)) i) 0)).1.2.2]])]) : Snap)) (wrapN hi hpm), ?_, hs3.re _, by omega, rfl⟩
                   rw [hx] at h2 ⊢
                   exact hB.trans (goR_next hi2 h1 h2))))
      | (have hi : ¬ i < (intR (pthE (l, ns, at_) k)).length := nltN (by with_reducible assumption)
         exact congrArg (tupH 72 55) (goE_yes (h := (l, ns, at_)) (k := k) hp0 hU2 (hB.trans (goR_end (by rw [← hpl]; exact hi)))).symm)
      | (show Alive _ _; exact rfl)
      | skip)
theorem xk15 : FOk Tryz.prog T 15 (spGo 72 55) := by
  refine fok (env := envL [(17, (spPth 72 55 3)), (22, (spCpH 72 55)), (37, (spHas 3)), (10, (spUn 72 55)), (11, (spRe 72 55))]) (N := 70) tabT (envL_cons xk17 (envL_cons xk22 (envL_cons xk37 (envL_cons xk10 (envL_cons xk11 envL_nil))))) mixed Tryz.func15 rfl Tryz.call15 Tryz.ntmps15 ?_
  rintro args ⟨l, ns, at_, k, hs, rfl⟩ hwf
  have hl : l.length ≤ 1048576 := hs.1
  have hn : ns.length ≤ 1000 := hs.2.1
  refine ⟨by simp, ?_⟩
  clear hwf
  rw [Tryz.results15]
  repeat' first
    | (refine And.intro ?_ ?_)
    | (intro h; simp only [reduceCtorEq] at h; done)
    | (intro h; rw [h])
    | (intro h)
  all_goals first
    | (show lowEdges _ = true; kernel_rfl) | (show logOk _ _ = true; kernel_rfl) | exact True.intro | exact Or.inr rfl | exact Or.inl rfl
    | exact ⟨_, _, _, _, hs, rfl⟩
    | exact ⟨_, _, _, hs, rfl⟩
    | exact congrArg (tupH 72 55) (goE_nil (h := (l, ns, at_)) (k := k) (len0 h)).symm
    | skip
  have hp0 : (pthE (l, ns, at_) k).length ≠ 0 := len1 (by with_reducible assumption)
  obtain ⟨hok, hk0, hk1, _⟩ := pth_open hp0
  obtain ⟨q, hq1, hpw, hq3, hq4⟩ := pth_spec hp0
  have hol := okH_len hok
  have hol2 : ns.length ≤ 20 := hol.2.1
  have hol3 : 0 ≤ at_ := hol.2.2.1
  have hol4 : at_ < (ns.length : Int) := hol.2.2.2.1
  have hpl := intR_len (pthE (l, ns, at_) k)
  have hpm : (intR (pthE (l, ns, at_) k)).length ≤ maxLen := by
    have h1 : (pthE (l, ns, at_) k).length ≤ 21 := pth_len _ _
    rw [hpl]; simp only [maxLen]; omega
  refine awp_loop (Q := _) [2, 4, 6, 7] [2, 4, 7] (fun n st => ∃ (m : Nat) (o : Bool) (l2 ns2 : List (List D)) (a2 : Int), st = ([.ptr 2 1 0, .ptr 4 1 0, .val false [.sl false 3 (intR (pthE (l, ns, at_) k))], .ptr 7 1 0], [(1, [.val false [.sl false 72 l], .val false [.sl false 55 ns], .val false [.i .i64 at_]]), (1, [.val false [.sl true 72 []], .val false [.sl true 55 []], .val false [.i .i64 0]]), (1, [.val false [.sl o 72 l2], .val false [.sl o 55 ns2], .val false [.i .i64 a2]])]) ∧ goU (pthE (l, ns, at_) k) 21 (l, ns, at_) = goU (pthE (l, ns, at_) k) m (l2, ns2, a2) ∧ SmH (l2, ns2, a2) ∧ a2 + 1 ≤ m ∧ 0 ≤ a2 ∧ n = m) ?_ ?_
  · exact ⟨rfl, 21, 21, true, l, ns, at_, rfl, rfl, hs, by omega, hol3, rfl⟩
  rintro n st ⟨m, o, l2, ns2, a2, rfl, hU, hs2, hm, ha, hnm⟩
  cases o
  all_goals
    repeat' first
      | (refine And.intro ?_ ?_)
      | (intro h; simp only [reduceCtorEq] at h; done)
      | (intro h; rw [h])
      | (intro h)
  all_goals first
    | (show lowEdges _ = true; kernel_rfl) | (show logOk _ _ = true; kernel_rfl) | exact True.intro | exact Or.inr rfl | exact Or.inl rfl
    | exact ⟨_, _, rfl⟩
    | exact ⟨_, _, _, hs2, rfl⟩
    | exact ⟨_, _, _, hs, rfl⟩
    | exact congrArg (tupH 72 55) (goE_no (h := (l, ns, at_)) (k := k) (hU.trans (goU_no (h := (l2, ns2, a2)) (by with_reducible assumption) (by with_reducible assumption)))).symm
    | (have hu := unE_ok (h := (l2, ns2, a2)) (of_notF (by with_reducible assumption))
       have e1 := hu.2.2.2.1
       have e2 : (unE (l2, ns2, a2)).1.2.2 < a2 := hu.2.2.2.2
       exact ⟨m - 1, by omega, m - 1, false, (unE (l2, ns2, a2)).1.1, (unE (l2, ns2, a2)).1.2.1, (unE (l2, ns2, a2)).1.2.2, rfl, hU.trans (goU_next (h := (l2, ns2, a2)) (by omega) (by with_reducible assumption) (by with_reducible assumption)), hs2.un, by omega, e1, rfl⟩)
    | (show Alive _ _; exact rfl)
    | skip
  all_goals (
    have hU2 : goU (pthE (l, ns, at_) k) 21 (l, ns, at_) = some (l2, ns2, a2) := hU.trans (goU_has (h := (l2, ns2, a2)) (by omega) (by with_reducible assumption))
    have hmem : a2 ∈ (pthE (l, ns, at_) k) := hasI_iff.1 (of_notF (by with_reducible assumption))
    refine awp_loop (Q := _) [2, 4, 6, 7, 38, 39, 40] [2, 4, 7] (fun n st => ∃ (i : Nat) (o : Bool) (l3 ns3 : List (List D)) (a3 : Int), st = ([.ptr 2 1 0, .ptr 4 1 0, .val false [.sl false 3 (intR (pthE (l, ns, at_) k))], .ptr 7 1 0, .val false [.sl false 3 (intR (pthE (l, ns, at_) k))], iA (intR (pthE (l, ns, at_) k)).length, iA (i : Int)], [(1, [.val false [.sl false 72 l], .val false [.sl false 55 ns], .val false [.i .i64 at_]]), (1, [.val false [.sl true 72 []], .val false [.sl true 55 []], .val false [.i .i64 0]]), (1, [.val false [.sl o 72 l3], .val false [.sl o 55 ns3], .val false [.i .i64 a3]])]) ∧ goR a2 (pthE (l, ns, at_) k) (l2, ns2, a2) = goR a2 ((pthE (l, ns, at_) k).drop i) (l3, ns3, a3) ∧ SmH (l3, ns3, a3) ∧ TrkG (pthE (l, ns, at_) k) a2 a3 i ∧ i ≤ (intR (pthE (l, ns, at_) k)).length ∧ n = (intR (pthE (l, ns, at_) k)).length - i) ?_ ?_
    · first
        | exact ⟨rfl, (intR (pthE (l, ns, at_) k)).length, 0, true, l2, ns2, a2, rfl, rfl, hs2, trk0, Nat.zero_le _, rfl⟩
        | exact ⟨rfl, (intR (pthE (l, ns, at_) k)).length, 0, false, l2, ns2, a2, rfl, rfl, hs2, trk0, Nat.zero_le _, rfl⟩
    rintro n st ⟨i, o, l3, ns3, a3, rfl, hB, hs3, ht, hle, rfl⟩
    cases o
    all_goals
      repeat' first
        | (refine And.intro ?_ ?_)
        | (intro h; simp only [reduceCtorEq] at h; done)
        | (intro h; rw [h])
        | (intro h)
    all_goals first
      | (show lowEdges _ = true; kernel_rfl) | (show logOk _ _ = true; kernel_rfl) | exact True.intro | exact Or.inr rfl | exact Or.inl rfl
      | with_reducible exact Int.natCast_nonneg _
      | exact ⟨_, _, _, _, hs3, rfl⟩
      | exact ⟨_, _, _, hs, rfl⟩
      | (have hi : i < (intR (pthE (l, ns, at_) k)).length := ltN (by with_reducible assumption)
         have hi2 : i < (pthE (l, ns, at_) k).length := by rw [← hpl]; exact hi
         have hx : iAt (rAt (intR (pthE (l, ns, at_) k)) i) 0 = gI (pthE (l, ns, at_) k) i := rAt_int hi2
         first
           | with_reducible exact of_decide_eq_true (by with_reducible assumption)
           | (show (i : Int) < _; omega)
           | (have h1 : i = 0 := i0_is (show ((i : Int) == 0) = true by with_reducible assumption)
              have h2 := trk_skip hpw hmem hi2 ht (.inl h1)
              first
                | exact ⟨(intR (pthE (l, ns, at_) k)).length - (i + 1), by omega, i + 1, true, l3, ns3, a3, congrArg (fun z : Int => (([.ptr 2 1 0, .ptr 4 1 0, .val false [.sl false 3 (intR (pthE (l, ns, at_) k))], .ptr 7 1 0, .val false [.sl false 3 (intR (pthE (l, ns, at_) k))], iA (intR (pthE (l, ns, at_) k)).length, iA z], [(1, [.val false [.sl false 72 l], .val false [.sl false 55 ns], .val false [.i .i64 at_]]), (1, [.val false [.sl true 72 []], .val false [.sl true 55 []], .val false [.i .i64 0]]), (1, [.val false [.sl true 72 l3], .val false [.sl true 55 ns3], .val false [.i .i64 a3]])]) : Snap)) (wrapN hi hpm), hB.trans (goR_skip hi2 h2.1), hs3, h2.2, by omega, rfl⟩
                | exact ⟨(intR (pthE (l, ns, at_) k)).length - (i + 1), by omega, i + 1, false, l3, ns3, a3, congrArg (fun z : Int => (([.ptr 2 1 0, .ptr 4 1 0, .val false [.sl false 3 (intR (pthE (l, ns, at_) k))], .ptr 7 1 0, .val false [.sl false 3 (intR (pthE (l, ns, at_) k))], iA (intR (pthE (l, ns, at_) k)).length, iA z], [(1, [.val false [.sl false 72 l], .val false [.sl false 55 ns], .val false [.i .i64 at_]]), (1, [.val false [.sl true 72 []], .val false [.sl true 55 []], .val false [.i .i64 0]]), (1, [.val false [.sl false 72 l3], .val false [.sl false 55 ns3], .val false [.i .i64 a3]])]) : Snap)) (wrapN hi hpm), hB.trans (goR_skip hi2 h2.1), hs3, h2.2, by omega, rfl⟩)
           | (have h0 : 0 < i := (i0_of (show ((i : Int) == 0) = false by with_reducible assumption))
              have hj : IntKind.i64.wrap ((i : Int) - 1) = ((i - 1 : Nat) : Int) := wrapP (by omega) hi hpm
              have hj2 : i - 1 < (pthE (l, ns, at_) k).length := by omega
              have hy : iAt (rAt (intR (pthE (l, ns, at_) k)) (i - 1)) 0 = gI (pthE (l, ns, at_) k) (i - 1) := rAt_int hj2
              first
                | (rw [hj]; exact Int.natCast_nonneg _)
                | (rw [hj]; omega)
                | (have h3 : (iAt ((intR (pthE (l, ns, at_) k)).getD (IntKind.i64.wrap ((i : Int) - 1)).toNat []) 0 != a3) = true := by with_reducible assumption
                   rw [hj] at h3
                   have h4 : gI (pthE (l, ns, at_) k) (i - 1) ≠ a3 := by rw [← hy]; intro e; rw [bne, show iAt ((intR (pthE (l, ns, at_) k)).getD ((i - 1 : Nat) : Int).toNat []) 0 = a3 from e] at h3; simp at h3
                   have h2 := trk_skip hpw hmem hi2 ht (.inr ⟨i - 1, by omega, h4⟩)
                   first
                     | exact ⟨(intR (pthE (l, ns, at_) k)).length - (i + 1), by omega, i + 1, true, l3, ns3, a3, congrArg (fun z : Int => (([.ptr 2 1 0, .ptr 4 1 0, .val false [.sl false 3 (intR (pthE (l, ns, at_) k))], .ptr 7 1 0, .val false [.sl false 3 (intR (pthE (l, ns, at_) k))], iA (intR (pthE (l, ns, at_) k)).length, iA z], [(1, [.val false [.sl false 72 l], .val false [.sl false 55 ns], .val false [.i .i64 at_]]), (1, [.val false [.sl true 72 []], .val false [.sl true 55 []], .val false [.i .i64 0]]), (1, [.val false [.sl true 72 l3], .val false [.sl true 55 ns3], .val false [.i .i64 a3]])]) : Snap)) (wrapN hi hpm), hB.trans (goR_skip hi2 h2.1), hs3, h2.2, by omega, rfl⟩
                     | exact ⟨(intR (pthE (l, ns, at_) k)).length - (i + 1), by omega, i + 1, false, l3, ns3, a3, congrArg (fun z : Int => (([.ptr 2 1 0, .ptr 4 1 0, .val false [.sl false 3 (intR (pthE (l, ns, at_) k))], .ptr 7 1 0, .val false [.sl false 3 (intR (pthE (l, ns, at_) k))], iA (intR (pthE (l, ns, at_) k)).length, iA z], [(1, [.val false [.sl false 72 l], .val false [.sl false 55 ns], .val false [.i .i64 at_]]), (1, [.val false [.sl true 72 []], .val false [.sl true 55 []], .val false [.i .i64 0]]), (1, [.val false [.sl false 72 l3], .val false [.sl false 55 ns3], .val false [.i .i64 a3]])]) : Snap)) (wrapN hi hpm), hB.trans (goR_skip hi2 h2.1), hs3, h2.2, by omega, rfl⟩)
                | (have h3 : (iAt ((intR (pthE (l, ns, at_) k)).getD (IntKind.i64.wrap ((i : Int) - 1)).toNat []) 0 != a3) = false := by with_reducible assumption
                   rw [hj] at h3
                   have h4 : gI (pthE (l, ns, at_) k) (i - 1) = a3 := by rw [← hy]; simpa [bne] using h3
                   have h5 := trk_go hpw hmem hi2 ht (show i = (i - 1) + 1 by omega) h4
                   first
                     | (have h2 : (!(reE (l3, ns3, a3) (iAt (rAt (intR (pthE (l, ns, at_) k)) i) 0)).2) = true := h
                        rw [hx] at h2
                        exact congrArg (tupH 72 55) (goE_no2 (h := (l, ns, at_)) (k := k) hU2 (hB.trans (goR_no hi2 h5.1 h2))).symm)
                     | (have h2 : (!(reE (l3, ns3, a3) (iAt (rAt (intR (pthE (l, ns, at_) k)) i) 0)).2) = false := h
                        refine ⟨(intR (pthE (l, ns, at_) k)).length - (i + 1), by omega, i + 1, false, (reE (l3, ns3, a3) (iAt (rAt (intR (pthE (l, ns, at_) k)) i) 0)).1.1, (reE (l3, ns3, a3) (iAt (rAt (intR (pthE (l, ns, at_) k)) i) 0)).1.2.1, (reE (l3, ns3, a3) (iAt (rAt (intR (pthE (l, ns, at_) k)) i) 0)).1.2.2, congrArg (fun z : Int => (([.ptr 2 1 0, .ptr 4 1 0, .val false [.sl false 3 (intR (pthE (l, ns, at_) k))], .ptr 7 1 0, .val false [.sl false 3 (intR (pthE (l, ns, at_) k))], iA (intR (pthE (l, ns, at_) k)).length, iA z], [(1, [.val false [.sl false 72 l], .val false [.sl false 55 ns], .val false [.i .i64 at_]]), (1, [.val false [.sl true 72 []], .val false [.sl true 55 []], .val false [.i .i64 0]]), (1, [.val false [.sl false 72 (reE (l3, ns3, a3) (iAt (rAt (intR (pthE (l, ns, at_) k)) i) 0)).1.1], .val false [.sl false 55 (reE (l3, ns3, a3) (iAt (rAt (intR (pthE (l, ns, at_) k)) i) 0)).1.2.1], .val false [.i .i64 (reE (l3, ns3, a3) (iAt (rAt (intR (pthE (l, ns, at_) k)) i) 0)).1.2.2]])]) : Snap)) (wrapN hi hpm), ?_, hs3.re _, ?_, by omega, rfl⟩
                        · rw [hx] at h2 ⊢
                          exact hB.trans (goR_next hi2 h5.1 h2)
                        · rw [(reE_ok (of_notF h2)).2.2.1, hx]
                          exact h5.2))))
      | (have hi : ¬ i < (intR (pthE (l, ns, at_) k)).length := nltN (by with_reducible assumption)
         exact congrArg (tupH 72 55) (goE_yes (h := (l, ns, at_)) (k := k) hp0 hU2 (hB.trans (goR_end (by rw [← hpl]; exact hi)))).symm)
      | (show Alive _ _; exact rfl)
      | skip)
end Go.Proofs.YtodddilaniojgaaGreat.Ab
