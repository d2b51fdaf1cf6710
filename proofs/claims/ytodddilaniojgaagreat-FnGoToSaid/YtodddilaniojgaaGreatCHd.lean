/- Edits, exactly: printed by a program of this claim. -/
import Derived.Test.YtodddilaniojgaaGreatCHc
import Derived.Test.YtodddilaniojgaaGreatCHt
namespace Go.Proofs.YtodddilaniojgaaGreat.Ab
open Go.RowKit
set_option linter.unusedVariables false
set_option linter.unusedSimpArgs false
set_option maxRecDepth 100000
set_option maxHeartbeats 2000000
theorem xk86 : FOk Tryz.prog T 86 (spMx min) := by
  refine fok (env := envL []) (N := 10) tabT envL_nil mixed Tryz.func86 rfl Tryz.call86 Tryz.ntmps86 ?_
  rintro args ⟨x, y, rfl⟩ hwf
  refine ⟨by simp, ?_⟩
  clear hwf
  rw [Tryz.results86]
  repeat' first
    | (refine And.intro ?_ ?_)
    | (intro h; simp only [reduceCtorEq] at h; done)
    | (intro h; rw [h])
    | (intro h)
  all_goals first
    | (show lowEdges _ = true; kernel_rfl) | (show logOk _ _ = true; kernel_rfl) | exact True.intro | exact Or.inr rfl | exact Or.inl rfl
    | (refine resI ?_; simp_all only [decide_eq_true_eq, decide_eq_false_iff_not]; omega)
    | skip
theorem xk85 : FOk Tryz.prog T 85 (spMx max) := by
  refine fok (env := envL []) (N := 10) tabT envL_nil mixed Tryz.func85 rfl Tryz.call85 Tryz.ntmps85 ?_
  rintro args ⟨x, y, rfl⟩ hwf
  refine ⟨by simp, ?_⟩
  clear hwf
  rw [Tryz.results85]
  repeat' first
    | (refine And.intro ?_ ?_)
    | (intro h; simp only [reduceCtorEq] at h; done)
    | (intro h; rw [h])
    | (intro h)
  all_goals first
    | (show lowEdges _ = true; kernel_rfl) | (show logOk _ _ = true; kernel_rfl) | exact True.intro | exact Or.inr rfl | exact Or.inl rfl
    | (refine resI ?_; simp_all only [decide_eq_true_eq, decide_eq_false_iff_not]; omega)
    | skip
theorem xk66 : FOk Tryz.prog T 66 (spPut 72) := by
  refine fok (env := envL [(86, (spMx min)), (85, (spMx max))]) (N := 27) tabT (envL_cons xk86 (envL_cons xk85 envL_nil)) mixed Tryz.func66 rfl Tryz.call66 Tryz.ntmps66 ?_
  rintro args ⟨l, x, c, hl, rfl⟩ hwf
  have hx : -9223372036854775808 ≤ x ∧ x ≤ 9223372036854775807 := (show inK .i64 x from arg1 hwf (List.mem_singleton_self _))
  refine ⟨by simp, ?_⟩
  clear hwf
  rw [Tryz.results66]
  repeat' first
    | (refine And.intro ?_ ?_)
    | (intro h; simp only [reduceCtorEq] at h; done)
    | (intro h; rw [h])
    | (intro h)
  all_goals first
    | (show lowEdges _ = true; kernel_rfl) | (show logOk _ _ = true; kernel_rfl) | exact True.intro | exact Or.inr rfl | exact Or.inl rfl
    | exact ⟨_, _, rfl⟩
    | omega
    | ((repeat' split) <;> omega)
    | (simp only [List.length_append, List.length_drop, List.length_take, List.length_cons, List.length_nil, maxLen]; omega)
    | (simp only [List.length_append, List.length_drop, List.length_take, List.length_cons, List.length_nil]; omega)
    | (show (-9223372036854775808 : Int) ≤ _; omega)
    | (show _ ≤ (9223372036854775807 : Int); omega)
    | (show (-9223372036854775808 : Int) ≤ _; (repeat' split) <;> omega)
    | (show _ ≤ (9223372036854775807 : Int); (repeat' split) <;> omega)
    | (refine congrArg (fun z => [CV.sl true 72 z]) (put_leaf _ ?_); unfold clampI; first | rfl | ((repeat' split) <;> omega))
    | skip
theorem xk87 : FOk Tryz.prog T 87 (spPut 72) := by
  refine fok (env := envL []) (N := 25) tabT envL_nil mixed Tryz.func87 rfl Tryz.call87 Tryz.ntmps87 ?_
  rintro args ⟨l, x, c, hl, rfl⟩ hwf
  have hx : -9223372036854775808 ≤ x ∧ x ≤ 9223372036854775807 := (show inK .i64 x from arg1 hwf (List.mem_singleton_self _))
  refine ⟨by simp, ?_⟩
  clear hwf
  rw [Tryz.results87]
  repeat' first
    | (refine And.intro ?_ ?_)
    | (intro h; simp only [reduceCtorEq] at h; done)
    | (intro h; rw [h])
    | (intro h)
  all_goals first
    | (show lowEdges _ = true; kernel_rfl) | (show logOk _ _ = true; kernel_rfl) | exact True.intro | exact Or.inr rfl | exact Or.inl rfl
    | exact ⟨_, _, rfl⟩
    | omega
    | ((repeat' split) <;> omega)
    | (simp only [List.length_append, List.length_drop, List.length_take, List.length_cons, List.length_nil, maxLen]; omega)
    | (simp only [List.length_append, List.length_drop, List.length_take, List.length_cons, List.length_nil]; omega)
    | (show (-9223372036854775808 : Int) ≤ _; omega)
    | (show _ ≤ (9223372036854775807 : Int); omega)
    | (show (-9223372036854775808 : Int) ≤ _; (repeat' split) <;> omega)
    | (show _ ≤ (9223372036854775807 : Int); (repeat' split) <;> omega)
    | (refine congrArg (fun z => [CV.sl true 72 z]) (put_leaf _ ?_); unfold clampI; first | rfl | ((repeat' split) <;> omega))
    | skip
theorem xk67 : FOk Tryz.prog T 67 (spDrop 72) := by
  refine fok (env := envL []) (N := 15) tabT envL_nil mixed Tryz.func67 rfl Tryz.call67 Tryz.ntmps67 ?_
  rintro args ⟨l, k, hl, h0, h1, rfl⟩ hwf
  have hw : IntKind.i64.wrap (k + 1) = k + 1 := IntWalk.i64_in _ (by omega)
  refine ⟨by simp, ?_⟩
  clear hwf
  rw [Tryz.results67]
  repeat' first
    | (refine And.intro ?_ ?_)
    | (intro h; simp only [reduceCtorEq] at h; done)
    | (intro h; rw [h])
    | (intro h)
  all_goals first
    | (show lowEdges _ = true; kernel_rfl) | (show logOk _ _ = true; kernel_rfl) | exact True.intro | exact Or.inr rfl | exact Or.inl rfl
    | omega
    | (rw [hw]; omega)
    | (simp only [List.length_append, List.length_drop, List.length_take, List.length_cons, List.length_nil, maxLen]; omega)
    | (simp only [List.length_append, List.length_drop, List.length_take, List.length_cons, List.length_nil]; omega)
    | (exact congrArg (fun z => [CV.sl true 72 z]) (drop_leaf hw))
    | skip
theorem xk88 : FOk Tryz.prog T 88 (spDrop 72) := by
  refine fok (env := envL []) (N := 15) tabT envL_nil mixed Tryz.func88 rfl Tryz.call88 Tryz.ntmps88 ?_
  rintro args ⟨l, k, hl, h0, h1, rfl⟩ hwf
  have hw : IntKind.i64.wrap (k + 1) = k + 1 := IntWalk.i64_in _ (by omega)
  refine ⟨by simp, ?_⟩
  clear hwf
  rw [Tryz.results88]
  repeat' first
    | (refine And.intro ?_ ?_)
    | (intro h; simp only [reduceCtorEq] at h; done)
    | (intro h; rw [h])
    | (intro h)
  all_goals first
    | (show lowEdges _ = true; kernel_rfl) | (show logOk _ _ = true; kernel_rfl) | exact True.intro | exact Or.inr rfl | exact Or.inl rfl
    | omega
    | (rw [hw]; omega)
    | (simp only [List.length_append, List.length_drop, List.length_take, List.length_cons, List.length_nil, maxLen]; omega)
    | (simp only [List.length_append, List.length_drop, List.length_take, List.length_cons, List.length_nil]; omega)
    | (exact congrArg (fun z => [CV.sl true 72 z]) (drop_leaf hw))
    | skip
theorem xk68 : FOk Tryz.prog T 68 spCellE := by
  refine fok (env := envL [(65, (spOkC [.i .i64, .i .i64, .i .i64, .s, .s, .i .i64]))]) (N := 52) tabT (envL_cons xk65 envL_nil) mixed Tryz.func68 rfl Tryz.call68 Tryz.ntmps68 ?_
  rintro args ⟨r, e, hv, hv2, rfl⟩ hwf
  have hw : IntKind.i64.wrap ((r.getD (0 + 1) default).int + 1) = (r.getD (0 + 1) default).int + 1 := IntWalk.i64_in _ (by show _ ∧ iAt r 1 + 1 ≤ _; constructor; (show _ ≤ iAt r 1 + 1; omega); omega)
  refine ⟨by simp, ?_⟩
  clear hwf
  rw [Tryz.results68]
  repeat' first
    | (refine And.intro ?_ ?_)
    | (intro h; simp only [reduceCtorEq] at h; done)
    | (intro h; rw [h])
    | (intro h)
  all_goals first
    | (show lowEdges _ = true; kernel_rfl) | (show logOk _ _ = true; kernel_rfl) | exact True.intro | exact Or.inr rfl | exact Or.inl rfl
    | (rw [cellF_eq]
       simp only [Nat.reduceAdd, csD, List.map, CV.d, bne_iff_ne, bne_eq_false_iff_eq, beq_iff_eq, beq_eq_false_iff_ne, ne_eq] at *
       generalize (r.getD 0 default).int = a0 at *
       generalize (r.getD 1 default).int = a1 at *
       generalize (r.getD 2 default).int = a2 at *
       generalize (r.getD 5 default).int = a5 at *
       generalize (e.getD 0 default).int = b0 at *
       unfold cellF finE
       simp_all
       first | done | rfl)
    | exact okC_arg _ _ _ _ _ _
    | (exfalso; simp_all; done)
    | skip
theorem xk69 : FOk Tryz.prog T 69 (spCh 72) := by
  refine fok (env := envL [(59, (spIdx 72)), (58, (spOkC [.i .i64, .i .i64, .i .i64, .s, .s, .i .i64])), (87, (spPut 72)), (88, (spDrop 72)), (49, (spCpN 72))]) (N := 129) tabT (envL_cons xk59 (envL_cons xk58 (envL_cons xk87 (envL_cons xk88 (envL_cons xk49 envL_nil))))) mixed Tryz.func69 rfl Tryz.call69 Tryz.ntmps69 ?_
  rintro args ⟨l, e, hok, hin, rfl⟩ hwf
  have wl : WfD T (.l 72) (.l l) := arg0 hwf (List.mem_singleton_self _)
  have hl8 : l.length ≤ 8 := (good_iff.1 hok).len
  have hkk : ∀ id, decide (idxC l id < 0) = false → (csD (rowC CE6 (l.getD (idxC l id).toNat [])) = l.getD (idxC l id).toNat [] ∧ (l.getD (idxC l id).toNat []).length = 6 ∧ decide (((l.getD (idxC l id).toNat []).getD (0 + 1) default).int ≥ 999) = (((l.getD (idxC l id).toNat []).getD (0 + 1) default).int == 999) ∧ IntKind.i64.wrap (((l.getD (idxC l id).toNat []).getD (0 + 1) default).int + 1) = ((l.getD (idxC l id).toNat []).getD (0 + 1) default).int + 1) := fun id h => by
    have hk := idx_in h
    have wr : WfRow T CE6 (l.getD (idxC l id).toNat []) := wl.row rfl hk.2.2
    have hv := ver_in (row_in hok h)
    exact ⟨csD_rowC wr, wr.1, ver_ge hv.2, IntWalk.i64_in _ (by omega)⟩
  have hg : chE l (csD (rowC EE8 e)) = chG l (e.getD 0 default).int (e.getD 1 default).int (e.getD 2 default).int (e.getD 3 default).int (e.getD 4 default).int (e.getD 5 default).str (e.getD 6 default).str (e.getD 7 default).int (l.getD (idxC l (e.getD (0 + 1 + 1) default).int).toNat []) := chG_eq rfl rfl wl e
  have h6 := six_of hin
  have h8 := len_ge hok
  refine ⟨by simp, ?_⟩
  clear hwf
  rw [Tryz.results69]
  repeat' first
    | (refine And.intro ?_ ?_)
    | (intro h; simp only [reduceCtorEq] at h; done)
    | (intro h; rw [h])
    | (intro h)
  all_goals first
    | (show lowEdges _ = true; kernel_rfl) | (show logOk _ _ = true; kernel_rfl) | exact True.intro | exact Or.inr rfl | exact Or.inl rfl
    | exact ⟨_, _, rfl⟩
    | exact okC_arg _ _ _ _ _ _
    | exact (idx_in (by with_reducible assumption)).1
    | exact (idx_in (by with_reducible assumption)).2.1
    | exact (idx_in (by with_reducible assumption)).2.2
    | exact ⟨_, _, Nat.le_trans hl8 (by decide), (idx_in (by with_reducible assumption)).1, (idx_in (by with_reducible assumption)).2.1, rfl⟩
    | exact put_arg _ _ _ _ _ _ (Nat.le_trans hl8 (by decide))
    | exact put_arg _ _ _ _ _ _ (Nat.le_trans (dropC_le hl8 (idx_in (by with_reducible assumption)).1) (by decide))
    | exact ⟨_, Nat.le_trans hl8 (by decide), rfl⟩
    | (show _ = tupN 72 (chE l (csD (rowC EE8 e)))
       rw [hg]
       simp only [h8] at *
       clear h8 hg wl hl8
       first
         | (have hkx := hkk _ (by with_reducible assumption)
            obtain ⟨q1, q2, q3, q4⟩ := hkx
            have hpk := fun (a b c : Int) (s t : ByteArray) (n : Int) => poke_all (ds := [.i a, .i b, .i c, .s s, .s t, .i n]) q2
            simp only [q3, q4, hpk] at *
            clear q1 q2 q3 q4 hpk hkk hok
            simp only [Nat.reduceAdd, csD, List.map, CV.d] at *
            unfold chG cellF finE
            generalize l.getD (idxC l (e.getD 2 default).int).toNat [] = r at *
            generalize (r.getD 0 default).int = a0 at *
            generalize (r.getD 1 default).int = a1 at *
            generalize (r.getD 2 default).int = a2 at *
            generalize (r.getD 5 default).int = a5 at *
            generalize (e.getD 0 default).int = b0 at *
            generalize (e.getD 2 default).int = b2 at *
            generalize (e.getD 7 default).int = b7 at *
            generalize (r.getD 3 default).str = s3 at *
            generalize (r.getD 4 default).str = s4 at *
            generalize (e.getD 5 default).str = s5 at *
            generalize (e.getD 6 default).str = s6 at *
            simp only [bne_iff_ne, bne_eq_false_iff_eq, beq_iff_eq, beq_eq_false_iff_ne, ne_eq] at *
            simp_all [-Int.not_le, -Int.not_lt]
            first | done | rfl)
         | (clear hkk hok
            simp only [Nat.reduceAdd, csD, List.map, CV.d] at *
            unfold chG
            simp_all [-Int.not_le, -Int.not_lt]
            first | done | rfl))
    | skip
end Go.Proofs.YtodddilaniojgaaGreat.Ab
