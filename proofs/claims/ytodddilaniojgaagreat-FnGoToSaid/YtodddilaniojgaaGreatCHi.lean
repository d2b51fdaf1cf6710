/- Edits of a notebook, exactly: printed by a program of this claim. -/
import Derived.Test.YtodddilaniojgaaGreatCHd
namespace Go.Proofs.YtodddilaniojgaaGreat.Ab
open Go.RowKit
set_option linter.unusedVariables false
set_option linter.unusedSimpArgs false
set_option maxRecDepth 100000
set_option maxHeartbeats 2000000
theorem xk51 : FOk Tryz.prog T 51 (spAp 72) := by
  refine fok (env := envL [(33, (spOkN 72)), (32, spIn), (49, (spCpN 72)), (69, (spCh 72))]) (N := 28) tabT (envL_cons xk33 (envL_cons xk32 (envL_cons xk49 (envL_cons xk69 envL_nil)))) mixed Tryz.func51 rfl Tryz.call51 Tryz.ntmps51 ?_
  rintro args ⟨l, e, hl, rfl⟩ hwf
  have wl : WfD T (.l 72) (.l l) := arg0 hwf (List.mem_singleton_self _)
  refine ⟨by simp, ?_⟩
  clear hwf
  rw [Tryz.results51]
  repeat' first
    | (refine And.intro ?_ ?_)
    | (intro h; simp only [reduceCtorEq] at h; done)
    | (intro h; rw [h])
    | (intro h)
  all_goals first
    | (show lowEdges _ = true; kernel_rfl) | (show logOk _ _ = true; kernel_rfl) | exact True.intro | exact Or.inr rfl | exact Or.inl rfl
    | exact ⟨_, _, rfl⟩
    | exact ⟨_, _, _, rfl⟩
    | exact ⟨_, rfl⟩
    | exact ⟨_, hl, rfl⟩
    | exact ⟨_, e, of_notF (b := okNb l) (by with_reducible assumption), of_notF (b := inR (e.getD 0 default).int 1 6) (by with_reducible assumption), rfl⟩
    | exact ⟨_, ch8 (by with_reducible assumption), rfl⟩
    | (show _ = tupN 72 (apE l (csD (rowC EE8 e))); first | rw [ap_no1 (by with_reducible assumption)] | rw [ap_no2 (x := csD (rowC EE8 e)) (show (!inR (e.getD 0 default).int 1 6) = true by with_reducible assumption)])
    | (show _ = tupN 72 (apE l (csD (rowC EE8 e))); rw [ap_is (x := csD (rowC EE8 e)) (by with_reducible assumption) (show (!inR (e.getD 0 default).int 1 6) = false by with_reducible assumption)]; rfl)
    | skip
theorem xk48 : FOk Tryz.prog T 48 (spAp 72) := by
  refine fok (env := envL [(34, (spCpN 72)), (55, (spOkN 72)), (54, spIn), (64, (spIdx 72)), (65, (spOkC [.i .i64, .i .i64, .i .i64, .s, .s, .i .i64])), (66, (spPut 72)), (67, (spDrop 72)), (68, spCellE)]) (N := 100) tabT (envL_cons xk34 (envL_cons xk55 (envL_cons xk54 (envL_cons xk64 (envL_cons xk65 (envL_cons xk66 (envL_cons xk67 (envL_cons xk68 envL_nil)))))))) mixed Tryz.func48 rfl Tryz.call48 Tryz.ntmps48 ?_
  rintro args ⟨l, e, hl, rfl⟩ hwf
  have wl : WfD T (.l 72) (.l l) := arg0 hwf (List.mem_singleton_self _)
  refine ⟨by simp, ?_⟩
  clear hwf
  rw [Tryz.results48]
  repeat' first
    | (refine And.intro ?_ ?_)
    | (intro h; simp only [reduceCtorEq] at h; done)
    | (intro h; rw [h])
    | (intro h)
  all_goals first
    | (show lowEdges _ = true; kernel_rfl) | (show logOk _ _ = true; kernel_rfl) | exact True.intro | exact Or.inr rfl | exact Or.inl rfl
    | exact ⟨_, _, rfl⟩
    | exact ⟨_, _, _, rfl⟩
    | exact ⟨_, rfl⟩
    | exact okC_arg _ _ _ _ _ _
    | exact (idx_in (by with_reducible assumption)).1
    | exact (idx_in (by with_reducible assumption)).2.1
    | exact (idx_in (by with_reducible assumption)).2.2
    | exact ⟨_, _, (Nat.le_trans (good_iff.1 (of_notF (b := okNb l) (by with_reducible assumption))).len (by decide)), (idx_in (by with_reducible assumption)).1, (idx_in (by with_reducible assumption)).2.1, rfl⟩
    | exact put_arg _ _ _ _ _ _ (Nat.le_trans (good_iff.1 (of_notF (b := okNb l) (by with_reducible assumption))).len (by decide))
    | exact put_arg _ _ _ _ _ _ (dropC_le (Nat.le_trans (good_iff.1 (of_notF (b := okNb l) (by with_reducible assumption))).len (by decide)) (idx_in (by with_reducible assumption)).1)
    | exact ⟨_, hl, rfl⟩
    | (show _ = tupN 72 (apE l (csD (rowC EE8 e))); first | rw [ap_no1 (by with_reducible assumption)] | rw [ap_no2 (x := csD (rowC EE8 e)) (show (!inR (e.getD 0 default).int 1 6) = true by with_reducible assumption)])
    | exact ⟨l.getD (idxC l (e.getD (0 + 1 + 1) default).int).toNat [], e, (ver_in (row_in (of_notF (b := okNb l) (by with_reducible assumption)) (by with_reducible assumption))).2, ver_lo (row_in (of_notF (b := okNb l) (by with_reducible assumption)) (by with_reducible assumption)), rfl⟩
    | exact ap_cellY rfl rfl wl (by with_reducible assumption) (show (!inR (e.getD 0 default).int 1 6) = false by with_reducible assumption) (by with_reducible assumption) (by with_reducible assumption) (by with_reducible assumption) (by with_reducible assumption) h
    | exact ap_cellN rfl rfl wl (by with_reducible assumption) (show (!inR (e.getD 0 default).int 1 6) = false by with_reducible assumption) (by with_reducible assumption) (by with_reducible assumption) (by with_reducible assumption) (by with_reducible assumption) h
    | (have hok := of_notF (b := okNb l) (by with_reducible assumption)
       have hin : inR (iAt e 0) 1 6 = true := of_notF (b := inR (e.getD 0 default).int 1 6) (by with_reducible assumption)
       have hl8 : l.length ≤ 8 := (good_iff.1 hok).len
       have hkk : ∀ id, decide (idxC l id < 0) = false → (csD (rowC CE6 (l.getD (idxC l id).toNat [])) = l.getD (idxC l id).toNat [] ∧ (l.getD (idxC l id).toNat []).length = 6 ∧ decide (((l.getD (idxC l id).toNat []).getD (0 + 1) default).int ≥ 999) = (((l.getD (idxC l id).toNat []).getD (0 + 1) default).int == 999) ∧ IntKind.i64.wrap (((l.getD (idxC l id).toNat []).getD (0 + 1) default).int + 1) = ((l.getD (idxC l id).toNat []).getD (0 + 1) default).int + 1) := fun id h => by
         have hk := idx_in h
         have wr : WfRow T CE6 (l.getD (idxC l id).toNat []) := wl.row rfl hk.2.2
         have hv := ver_in (row_in hok h)
         exact ⟨csD_rowC wr, wr.1, ver_ge hv.2, IntWalk.i64_in _ (by omega)⟩
       have hg : chE l (csD (rowC EE8 e)) = chG l (e.getD 0 default).int (e.getD 1 default).int (e.getD 2 default).int (e.getD 3 default).int (e.getD 4 default).int (e.getD 5 default).str (e.getD 6 default).str (e.getD 7 default).int (l.getD (idxC l (e.getD (0 + 1 + 1) default).int).toNat []) := chG_eq rfl rfl wl e
       have h6 := six_of hin
       have h8 := len_ge hok
       show _ = tupN 72 (apE l (csD (rowC EE8 e)))
       rw [ap_is (x := csD (rowC EE8 e)) (by with_reducible assumption) (show (!inR (e.getD 0 default).int 1 6) = false by with_reducible assumption), hg]
       simp only [h8] at *
       clear h8 hg wl hl8
       first
         | (have hkx := hkk _ (by with_reducible assumption)
            obtain ⟨q1, q2, q3, q4⟩ := hkx
            have hpk := fun (a b c : Int) (s t : ByteArray) (n : Int) => poke_all (ds := [.i a, .i b, .i c, .s s, .s t, .i n]) q2
            simp only [q3, q4, hpk] at *
            clear q1 q2 q3 q4 hpk hkk hok
            simp only [Nat.reduceAdd, csD, List.map, CV.d] at *
            unfold chG cellF finE
            generalize l.getD (idxC l (e.getD 2 default).int).toNat [] = r at *
            generalize (r.getD 0 default).int = a0 at *
            generalize (r.getD 1 default).int = a1 at *
            generalize (r.getD 2 default).int = a2 at *
            generalize (r.getD 5 default).int = a5 at *
            generalize (e.getD 0 default).int = b0 at *
            generalize (e.getD 2 default).int = b2 at *
            generalize (e.getD 7 default).int = b7 at *
            generalize (r.getD 3 default).str = s3 at *
            generalize (r.getD 4 default).str = s4 at *
            generalize (e.getD 5 default).str = s5 at *
            generalize (e.getD 6 default).str = s6 at *
            simp only [bne_iff_ne, bne_eq_false_iff_eq, beq_iff_eq, beq_eq_false_iff_ne, ne_eq] at *
            simp_all [-Int.not_le, -Int.not_lt]
            first | done | rfl)
         | (clear hkk hok
            simp only [Nat.reduceAdd, csD, List.map, CV.d] at *
            unfold chG
            simp_all [-Int.not_le, -Int.not_lt]
            first | done | rfl))
    | skip
end Go.Proofs.YtodddilaniojgaaGreat.Ab
