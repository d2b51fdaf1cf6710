/- Inverses and batches of edits, exactly: printed by a program of this claim. -/
import Derived.Test.YtodddilaniojgaaGreatCHi
namespace Go.Proofs.YtodddilaniojgaaGreat.Ab
open Go.RowKit
set_option linter.unusedVariables false
set_option linter.unusedSimpArgs false
set_option maxRecDepth 100000
set_option maxHeartbeats 2000000
theorem xk53 : FOk Tryz.prog T 53 (spInv 72) := by
  refine fok (env := envL [(48, (spAp 72)), (64, (spIdx 72))]) (N := 70) tabT (envL_cons xk48 (envL_cons xk64 envL_nil)) mixed Tryz.func53 rfl Tryz.call53 Tryz.ntmps53 ?_
  rintro args ⟨l, e, hl, rfl⟩ hwf
  have wl : WfD T (.l 72) (.l l) := arg0 hwf (List.mem_singleton_self _)
  refine ⟨by simp, ?_⟩
  clear hwf
  rw [Tryz.results53]
  repeat' first
    | (refine And.intro ?_ ?_)
    | (intro h; simp only [reduceCtorEq] at h; done)
    | (intro h; rw [h])
    | (intro h)
  all_goals first
    | (show lowEdges _ = true; kernel_rfl) | (show logOk _ _ = true; kernel_rfl) | exact True.intro | exact Or.inr rfl | exact Or.inl rfl
    | exact ap_arg hl
    | exact ⟨_, _, rfl⟩
    | exact ⟨_, _, hl, rfl⟩
    | exact (idx_in (ap_idx (x := csD (rowC EE8 e)) (by assumption) (show ((e.getD 0 default).int == 1) = false by with_reducible assumption))).1
    | exact (idx_in (ap_idx (x := csD (rowC EE8 e)) (by assumption) (show ((e.getD 0 default).int == 1) = false by with_reducible assumption))).2.1
    | (show _ = tupI (invE l (csD (rowC EE8 e))); rw [inv_no (x := csD (rowC EE8 e)) h]; rfl)
    | (show _ = tupI (invE l (csD (rowC EE8 e)))
       have hz : ((apE l (csD (rowC EE8 e))).2 != 0) = false := by assumption
       have h6 := six_or (x := (e.getD 0 default).int) (ap_in hz).2.1
       rw [inv_yes hz, invG_eq rfl rfl wl hz]
       clear hz
       unfold invG
       simp only [Nat.reduceAdd] at *
       generalize l.getD (idxC l (e.getD 2 default).int).toNat [] = r at *
       generalize (e.getD 0 default).int = b0 at *
       generalize (e.getD 2 default).int = b2 at *
       simp only [bne_iff_ne, bne_eq_false_iff_eq, beq_iff_eq, beq_eq_false_iff_ne, ne_eq] at *
       simp_all
       first | done | rfl)
    | skip
theorem xk50 : FOk Tryz.prog T 50 (spInv 72) := by
  refine fok (env := envL [(51, (spAp 72)), (59, (spIdx 72))]) (N := 78) tabT (envL_cons xk51 (envL_cons xk59 envL_nil)) mixed Tryz.func50 rfl Tryz.call50 Tryz.ntmps50 ?_
  rintro args ⟨l, e, hl, rfl⟩ hwf
  have wl : WfD T (.l 72) (.l l) := arg0 hwf (List.mem_singleton_self _)
  refine ⟨by simp, ?_⟩
  clear hwf
  rw [Tryz.results50]
  repeat' first
    | (refine And.intro ?_ ?_)
    | (intro h; simp only [reduceCtorEq] at h; done)
    | (intro h; rw [h])
    | (intro h)
  all_goals first
    | (show lowEdges _ = true; kernel_rfl) | (show logOk _ _ = true; kernel_rfl) | exact True.intro | exact Or.inr rfl | exact Or.inl rfl
    | exact ap_arg hl
    | exact ⟨_, _, rfl⟩
    | exact ⟨_, _, hl, rfl⟩
    | exact (idx_in (ap_idx (x := csD (rowC EE8 e)) (by assumption) (show ((e.getD 0 default).int == 1) = false by with_reducible assumption))).1
    | exact (idx_in (ap_idx (x := csD (rowC EE8 e)) (by assumption) (show ((e.getD 0 default).int == 1) = false by with_reducible assumption))).2.1
    | (show _ = tupI (invE l (csD (rowC EE8 e))); rw [inv_no (x := csD (rowC EE8 e)) h]; rfl)
    | (show _ = tupI (invE l (csD (rowC EE8 e)))
       have hz : ((apE l (csD (rowC EE8 e))).2 != 0) = false := by assumption
       have h6 := six_or (x := (e.getD 0 default).int) (ap_in hz).2.1
       rw [inv_yes hz, invG_eq rfl rfl wl hz]
       clear hz
       unfold invG
       simp only [Nat.reduceAdd] at *
       generalize l.getD (idxC l (e.getD 2 default).int).toNat [] = r at *
       generalize (e.getD 0 default).int = b0 at *
       generalize (e.getD 2 default).int = b2 at *
       simp only [bne_iff_ne, bne_eq_false_iff_eq, beq_iff_eq, beq_eq_false_iff_ne, ne_eq] at *
       simp_all
       first | done | rfl)
    | skip
theorem xk30 : FOk Tryz.prog T 30 (spCpE 82) := by
  refine fok (env := envL []) (N := 6) tabT envL_nil mixed Tryz.func30 rfl Tryz.call30 Tryz.ntmps30 ?_
  rintro args ⟨l, hl, rfl⟩ hwf
  refine ⟨by simp, ?_⟩
  clear hwf
  rw [Tryz.results30]
  repeat' first
    | (refine And.intro ?_ ?_)
    | (intro h; simp only [reduceCtorEq] at h; done)
    | (intro h; rw [h])
    | (intro h)
  all_goals first
    | (show lowEdges _ = true; kernel_rfl) | (show logOk _ _ = true; kernel_rfl) | exact True.intro | exact Or.inr rfl | exact Or.inl rfl
    | exact rfl
    | (show 0 + l.length ≤ maxLen; simp only [maxLen]; omega)
    | (show (0 + l.length) * 80 ≤ 140737488355328; omega)
    | skip
theorem xk25 : FOk Tryz.prog T 25 (spCpE 82) := by
  refine fok (env := envL []) (N := 6) tabT envL_nil mixed Tryz.func25 rfl Tryz.call25 Tryz.ntmps25 ?_
  rintro args ⟨l, hl, rfl⟩ hwf
  refine ⟨by simp, ?_⟩
  clear hwf
  rw [Tryz.results25]
  repeat' first
    | (refine And.intro ?_ ?_)
    | (intro h; simp only [reduceCtorEq] at h; done)
    | (intro h; rw [h])
    | (intro h)
  all_goals first
    | (show lowEdges _ = true; kernel_rfl) | (show logOk _ _ = true; kernel_rfl) | exact True.intro | exact Or.inr rfl | exact Or.inl rfl
    | exact rfl
    | (show 0 + l.length ≤ maxLen; simp only [maxLen]; omega)
    | (show (0 + l.length) * 80 ≤ 140737488355328; omega)
    | skip
theorem xk28 : FOk Tryz.prog T 28 (spApB 72 82) := by
  refine fok (env := envL [(34, (spCpN 72)), (48, (spAp 72))]) (N := 34) tabT (envL_cons xk34 (envL_cons xk48 envL_nil)) mixed Tryz.func28 rfl Tryz.call28 Tryz.ntmps28 ?_
  rintro args ⟨l, es, hl, rfl⟩ hwf
  have wes : WfD T (.l 82) (.l es) := arg1 hwf (List.mem_singleton_self _)
  have hes : es.length ≤ maxLen := wes.len
  refine ⟨by simp, ?_⟩
  clear hwf
  rw [Tryz.results28]
  repeat' first
    | (refine And.intro ?_ ?_)
    | (intro h; simp only [reduceCtorEq] at h; done)
    | (intro h; rw [h])
    | (intro h)
  all_goals first
    | (show lowEdges _ = true; kernel_rfl) | (show logOk _ _ = true; kernel_rfl) | exact True.intro | exact Or.inr rfl | exact Or.inl rfl
    | exact ⟨_, _, hl, rfl⟩
    | exact ⟨_, hl, rfl⟩
    | skip
  refine awp_loop (Q := _) [1, 2, 4, 6, 7] [2, 4, 6] (fun n st => ∃ (i : Nat) (o : Bool) (now : List (List D)), st = ([argS 82 es, .ptr 2 1 0, .ptr 4 1 0, .ptr 6 1 0, .val false [.i .i64 (i : Int)]], [(1, [.val false [.sl false 72 l]]), (1, [.val false [.sl true 72 []]]), (1, [.val false [.sl o 72 now]])]) ∧ apB l es = batF l now (es.drop i) i ∧ now.length ≤ 1048576 ∧ i ≤ es.length ∧ n = es.length - i) ?_ ?_
  · exact ⟨rfl, es.length, 0, true, l, rfl, rfl, hl, Nat.zero_le _, rfl⟩
  rintro n st ⟨i, o, now, rfl, hB, hn, hle, rfl⟩
  cases o
  all_goals
    repeat' first
      | (refine And.intro ?_ ?_)
      | (intro h; simp only [reduceCtorEq] at h; done)
      | (intro h; rw [h])
      | (intro h)
  all_goals first
    | (show lowEdges _ = true; kernel_rfl) | (show logOk _ _ = true; kernel_rfl) | exact True.intro | exact Or.inr rfl | exact Or.inl rfl
    | with_reducible exact Int.natCast_nonneg _
    | exact ap_arg hn
    | exact ⟨_, hl, rfl⟩
    | (have hi : i < es.length := ltN (by with_reducible assumption)
       have he : csD (rowC EE8 (rAt es i)) = rAt es i := csD_rowC (wes.row rfl (by rw [Int.toNat_natCast]; exact hi))
       first
         | with_reducible exact of_decide_eq_true (by with_reducible assumption)
         | (show (i : Int) < _; omega)
         | (have h2 : ((apE now (csD (rowC EE8 (rAt es i)))).2 != 0) = true := h
            rw [he] at h2
            show _ = tupN 72 (apB l es)
            rw [hB, bat_no hi h2])
         | (have h2 : ((apE now (csD (rowC EE8 (rAt es i)))).2 != 0) = false := by assumption
            refine ⟨es.length - (i + 1), by omega, i + 1, false, (apE now (csD (rowC EE8 (rAt es i)))).1, congrArg (fun z : Int => (([argS 82 es, .ptr 2 1 0, .ptr 4 1 0, .ptr 6 1 0, .val false [.i .i64 z]], [(1, [.val false [.sl false 72 l]]), (1, [.val false [.sl true 72 []]]), (1, [.val false [.sl false 72 (apE now (csD (rowC EE8 (rAt es i)))).1]])]) : Snap)) (wrapN hi hes), ?_, ap_len hn (by decide), by omega, rfl⟩
            rw [he] at h2 ⊢
            rw [hB, bat_yes hi h2]))
    | (have hi : ¬ i < es.length := nltN (by with_reducible assumption)
       show _ = tupN 72 (apB l es)
       rw [hB, bat_end hi])
    | (show Alive _ _; exact rfl)
    | skip
theorem xk52 : FOk Tryz.prog T 52 (spApB 72 82) := by
  refine fok (env := envL [(49, (spCpN 72)), (51, (spAp 72))]) (N := 34) tabT (envL_cons xk49 (envL_cons xk51 envL_nil)) mixed Tryz.func52 rfl Tryz.call52 Tryz.ntmps52 ?_
  rintro args ⟨l, es, hl, rfl⟩ hwf
  have wes : WfD T (.l 82) (.l es) := arg1 hwf (List.mem_singleton_self _)
  have hes : es.length ≤ maxLen := wes.len
  refine ⟨by simp, ?_⟩
  clear hwf
  rw [Tryz.results52]
  repeat' first
    | (refine And.intro ?_ ?_)
    | (intro h; simp only [reduceCtorEq] at h; done)
    | (intro h; rw [h])
    | (intro h)
  all_goals first
    | (show lowEdges _ = true; kernel_rfl) | (show logOk _ _ = true; kernel_rfl) | exact True.intro | exact Or.inr rfl | exact Or.inl rfl
    | exact ⟨_, _, hl, rfl⟩
    | exact ⟨_, hl, rfl⟩
    | skip
  refine awp_loop (Q := _) [2, 4, 6, 13, 14, 15] [2, 4, 6] (fun n st => ∃ (i : Nat) (o : Bool) (now : List (List D)), st = ([.ptr 2 1 0, .ptr 4 1 0, .ptr 6 1 0, argS 82 es, .val false [.i .i64 es.length], .val false [.i .i64 (i : Int)]], [(1, [.val false [.sl false 72 l]]), (1, [.val false [.sl true 72 []]]), (1, [.val false [.sl o 72 now]])]) ∧ apB l es = batF l now (es.drop i) i ∧ now.length ≤ 1048576 ∧ i ≤ es.length ∧ n = es.length - i) ?_ ?_
  · exact ⟨rfl, es.length, 0, true, l, rfl, rfl, hl, Nat.zero_le _, rfl⟩
  rintro n st ⟨i, o, now, rfl, hB, hn, hle, rfl⟩
  cases o
  all_goals
    repeat' first
      | (refine And.intro ?_ ?_)
      | (intro h; simp only [reduceCtorEq] at h; done)
      | (intro h; rw [h])
      | (intro h)
  all_goals first
    | (show lowEdges _ = true; kernel_rfl) | (show logOk _ _ = true; kernel_rfl) | exact True.intro | exact Or.inr rfl | exact Or.inl rfl
    | with_reducible exact Int.natCast_nonneg _
    | exact ap_arg hn
    | exact ⟨_, hl, rfl⟩
    | (have hi : i < es.length := ltN (by with_reducible assumption)
       have he : csD (rowC EE8 (rAt es i)) = rAt es i := csD_rowC (wes.row rfl (by rw [Int.toNat_natCast]; exact hi))
       first
         | with_reducible exact of_decide_eq_true (by with_reducible assumption)
         | (show (i : Int) < _; omega)
         | (have h2 : ((apE now (csD (rowC EE8 (rAt es i)))).2 != 0) = true := h
            rw [he] at h2
            show _ = tupN 72 (apB l es)
            rw [hB, bat_no hi h2])
         | (have h2 : ((apE now (csD (rowC EE8 (rAt es i)))).2 != 0) = false := by assumption
            refine ⟨es.length - (i + 1), by omega, i + 1, false, (apE now (csD (rowC EE8 (rAt es i)))).1, congrArg (fun z : Int => (([.ptr 2 1 0, .ptr 4 1 0, .ptr 6 1 0, argS 82 es, .val false [.i .i64 es.length], .val false [.i .i64 z]], [(1, [.val false [.sl false 72 l]]), (1, [.val false [.sl true 72 []]]), (1, [.val false [.sl false 72 (apE now (csD (rowC EE8 (rAt es i)))).1]])]) : Snap)) (wrapN hi hes), ?_, ap_len hn (by decide), by omega, rfl⟩
            rw [he] at h2 ⊢
            rw [hB, bat_yes hi h2]))
    | (have hi : ¬ i < es.length := nltN (by with_reducible assumption)
       show _ = tupN 72 (apB l es)
       rw [hB, bat_end hi])
    | (show Alive _ _; exact rfl)
    | skip
theorem xk27 : FOk Tryz.prog T 27 (spIvB 72 82) := by
  refine fok (env := envL [(34, (spCpN 72)), (53, (spInv 72)), (48, (spAp 72))]) (N := 46) tabT (envL_cons xk34 (envL_cons xk53 (envL_cons xk48 envL_nil))) mixed Tryz.func27 rfl Tryz.call27 Tryz.ntmps27 ?_
  rintro args ⟨l, es, hl, hm, rfl⟩ hwf
  have wl : WfD T (.l 72) (.l l) := arg0 hwf (List.mem_singleton_self _)
  have wes : WfD T (.l 82) (.l es) := arg1 hwf (List.mem_singleton_self _)
  have hes : es.length ≤ maxLen := wes.len
  refine ⟨by simp, ?_⟩
  clear hwf
  rw [Tryz.results27]
  repeat' first
    | (refine And.intro ?_ ?_)
    | (intro h; simp only [reduceCtorEq] at h; done)
    | (intro h; rw [h])
    | (intro h)
  all_goals first
    | (show lowEdges _ = true; kernel_rfl) | (show logOk _ _ = true; kernel_rfl) | exact True.intro | exact Or.inr rfl | exact Or.inl rfl
    | exact ⟨_, _, hl, rfl⟩
    | exact ⟨_, hl, rfl⟩
    | skip
  refine awp_loop (Q := _) [1, 2, 6, 7, 8] [2, 7] (fun n st => ∃ (i : Nat) (o : Bool) (now acc : List (List D)), st = ([argS 82 es, .ptr 2 1 0, .val false [.sl true 82 (acc)], .ptr 7 1 0, .val false [.i .i64 (i : Int)]], [(1, [.val false [.sl false 72 l]]), (1, [.val false [.sl o 72 now]])]) ∧ ivB l es = ivtF now (es.drop i) acc ∧ acc.length = i ∧ now.length ≤ 1048576 ∧ Can now ∧ i ≤ es.length ∧ n = es.length - i) ?_ ?_
  · exact ⟨rfl, es.length, 0, true, l, [], rfl, rfl, rfl, hl, Can.of_wf rfl rfl wl, Nat.zero_le _, rfl⟩
  rintro n st ⟨i, o, now, acc, rfl, hB, ha, hn, hC, hle, rfl⟩
  cases o
  all_goals
    repeat' first
      | (refine And.intro ?_ ?_)
      | (intro h; simp only [reduceCtorEq] at h; done)
      | (intro h; rw [h])
      | (intro h)
  all_goals first
    | (show lowEdges _ = true; kernel_rfl) | (show logOk _ _ = true; kernel_rfl) | exact True.intro | exact Or.inr rfl | exact Or.inl rfl
    | with_reducible exact Int.natCast_nonneg _
    | exact ap_arg hn
    | exact ⟨_, _, hn, rfl⟩
    | (have hi : i < es.length := ltN (by with_reducible assumption)
       have he : csD (rowC EE8 (rAt es i)) = rAt es i := csD_rowC (wes.row rfl (by rw [Int.toNat_natCast]; exact hi))
       first
         | with_reducible exact of_decide_eq_true (by with_reducible assumption)
         | (show (i : Int) < _; omega)
         | (simp only [List.length_append, List.length_cons, List.length_nil, maxLen]; omega)
         | (simp only [List.length_append, List.length_cons, List.length_nil]; omega)
         | (have h2 : (!(invE now (csD (rowC EE8 (rAt es i)))).2) = true := h
            rw [he] at h2
            show _ = tupV 82 (ivB l es)
            rw [hB, ivt_no hi h2])
         | (have h2 : (!(invE now (csD (rowC EE8 (rAt es i)))).2) = false := by assumption
            refine ⟨es.length - (i + 1), by omega, i + 1, false, (apE now (csD (rowC EE8 (rAt es i)))).1, (csD (rowC EE8 (invE now (csD (rowC EE8 (rAt es i)))).1)) :: acc, congrArg (fun z : Int => (([argS 82 es, .ptr 2 1 0, .val false [.sl true 82 ((csD (rowC EE8 (invE now (csD (rowC EE8 (rAt es i)))).1)) :: acc)], .ptr 7 1 0, .val false [.i .i64 z]], [(1, [.val false [.sl false 72 l]]), (1, [.val false [.sl false 72 (apE now (csD (rowC EE8 (rAt es i)))).1]])]) : Snap)) (wrapN hi hes), ?_, by simp [ha], ap_len hn (by decide), can_ap hC, by omega, rfl⟩
            rw [he] at h2 ⊢
            rw [can_inv hC, hB, ivt_yes hi h2]))
    | (have hi : ¬ i < es.length := nltN (by with_reducible assumption)
       show _ = tupV 82 (ivB l es)
       rw [hB, ivt_end hi])
    | (show Alive _ _; exact rfl)
    | skip
theorem xk23 : FOk Tryz.prog T 23 (spIvB 72 82) := by
  refine fok (env := envL [(50, (spInv 72)), (51, (spAp 72))]) (N := 38) tabT (envL_cons xk50 (envL_cons xk51 envL_nil)) mixed Tryz.func23 rfl Tryz.call23 Tryz.ntmps23 ?_
  rintro args ⟨l, es, hl, hm, rfl⟩ hwf
  have wl : WfD T (.l 72) (.l l) := arg0 hwf (List.mem_singleton_self _)
  have wes : WfD T (.l 82) (.l es) := arg1 hwf (List.mem_singleton_self _)
  have hes : es.length ≤ maxLen := wes.len
  refine ⟨by simp, ?_⟩
  clear hwf
  rw [Tryz.results23]
  repeat' first
    | (refine And.intro ?_ ?_)
    | (intro h; simp only [reduceCtorEq] at h; done)
    | (intro h; rw [h])
    | (intro h)
  all_goals first
    | (show lowEdges _ = true; kernel_rfl) | (show logOk _ _ = true; kernel_rfl) | exact True.intro | exact Or.inr rfl | exact Or.inl rfl
    | exact ⟨_, _, hl, rfl⟩
    | exact ⟨_, hl, rfl⟩
    | skip
  refine awp_loop (Q := _) [2, 6, 12, 13, 14] [2] (fun n st => ∃ (i : Nat) (o : Bool) (now acc : List (List D)), st = ([.ptr 2 1 0, .val false [.sl true 82 (acc)], argS 82 es, .val false [.i .i64 es.length], .val false [.i .i64 (i : Int)]], [(1, [.val false [.sl o 72 now]])]) ∧ ivB l es = ivtF now (es.drop i) acc ∧ acc.length = i ∧ now.length ≤ 1048576 ∧ Can now ∧ i ≤ es.length ∧ n = es.length - i) ?_ ?_
  · exact ⟨rfl, es.length, 0, false, l, [], rfl, rfl, rfl, hl, Can.of_wf rfl rfl wl, Nat.zero_le _, rfl⟩
  rintro n st ⟨i, o, now, acc, rfl, hB, ha, hn, hC, hle, rfl⟩
  cases o
  all_goals
    repeat' first
      | (refine And.intro ?_ ?_)
      | (intro h; simp only [reduceCtorEq] at h; done)
      | (intro h; rw [h])
      | (intro h)
  all_goals first
    | (show lowEdges _ = true; kernel_rfl) | (show logOk _ _ = true; kernel_rfl) | exact True.intro | exact Or.inr rfl | exact Or.inl rfl
    | with_reducible exact Int.natCast_nonneg _
    | exact ap_arg hn
    | exact ⟨_, _, hn, rfl⟩
    | (have hi : i < es.length := ltN (by with_reducible assumption)
       have he : csD (rowC EE8 (rAt es i)) = rAt es i := csD_rowC (wes.row rfl (by rw [Int.toNat_natCast]; exact hi))
       first
         | with_reducible exact of_decide_eq_true (by with_reducible assumption)
         | (show (i : Int) < _; omega)
         | (simp only [List.length_append, List.length_cons, List.length_nil, maxLen]; omega)
         | (simp only [List.length_append, List.length_cons, List.length_nil]; omega)
         | (have h2 : (!(invE now (csD (rowC EE8 (rAt es i)))).2) = true := h
            rw [he] at h2
            show _ = tupV 82 (ivB l es)
            rw [hB, ivt_no hi h2])
         | (have h2 : (!(invE now (csD (rowC EE8 (rAt es i)))).2) = false := by assumption
            refine ⟨es.length - (i + 1), by omega, i + 1, false, (apE now (csD (rowC EE8 (rAt es i)))).1, (csD (rowC EE8 (invE now (csD (rowC EE8 (rAt es i)))).1)) :: acc, congrArg (fun z : Int => (([.ptr 2 1 0, .val false [.sl true 82 ((csD (rowC EE8 (invE now (csD (rowC EE8 (rAt es i)))).1)) :: acc)], argS 82 es, .val false [.i .i64 es.length], .val false [.i .i64 z]], [(1, [.val false [.sl false 72 (apE now (csD (rowC EE8 (rAt es i)))).1]])]) : Snap)) (wrapN hi hes), ?_, by simp [ha], ap_len hn (by decide), can_ap hC, by omega, rfl⟩
            rw [he] at h2 ⊢
            rw [can_inv hC, hB, ivt_yes hi h2]))
    | (have hi : ¬ i < es.length := nltN (by with_reducible assumption)
       show _ = tupV 82 (ivB l es)
       rw [hB, ivt_end hi])
    | (show Alive _ _; exact rfl)
    | skip
end Go.Proofs.YtodddilaniojgaaGreat.Ab
