/- Tapes put, new reads: printed by a program of this claim. -/
import Derived.Test.YtfmjpoibfpgfbaaNe
import Derived.Test.YtfmjpoibfpgfbaaNr
namespace Go.Proofs.Ytfmjpoibfpgfbaa.Ab
open Go.RowKit
set_option linter.unusedVariables false
set_option linter.unusedSimpArgs false
set_option maxRecDepth 100000
set_option maxHeartbeats 1000000
/-- spec.PutTape -/
theorem ok9 : FOk Try.prog T 9 (spPut 32 42) := by
  refine fok (env := envL [(19, (cpS 32)), (20, (spAt 32)), (21, (spMerge 42)), (22, (spBefore T [.i .i64, .i .i64, .l 42]))]) (N := 73) tabT (envL_cons ok19 (envL_cons ok20 (envL_cons ok21 (envL_cons ok22 envL_nil)))) mixed Try.func9 rfl Try.call9 Try.ntmps9 ?_
  rintro args ⟨l, c, v, rs, fl, fr, hc, hv, hw, rfl⟩ hwf
  have wl : WfD T (.l 32) (.l l) := arg0 hwf (List.mem_cons_self ..)
  have wrs : WfD T (.l 42) (.l rs) := hwf (argS 42 rs) (by simp) (.sl false 42 rs) (List.mem_singleton_self _)
  clear hwf
  have ll : l.length ≤ maxLen := wl.len
  have ha := atI_in l c v
  have hm := mergeR_size [] rs
  have hm0 : ([] : List (List D)).length + wRows [] = 0 := rfl
  refine ⟨by simp, ?_⟩
  rw [Try.results9]
  repeat' first
    | (refine And.intro ?_ ?_)
    | (intro h; simp only [reduceCtorEq] at h; done)
    | (intro h; rw [h])
    | (intro h)
  all_goals first
    | (show lowEdges _ = true; kernel_rfl) | (show logOk _ _ = true; kernel_rfl) | exact True.intro | exact Or.inr rfl | exact Or.inl rfl
    | exact ⟨_, by omega, rfl⟩
    | exact ⟨_, _, _, rfl⟩
    | (have hn : atI l c v ≥ 0 := of_decide_eq_true h
       have hwr := wRow_le (a := l) (k := (atI l c v).toNat) (by omega)
       have hrc := wRows_cell (l.getD (atI l c v).toNat []) 2
       first
         | omega
         | exact ⟨_, _, flat_row fl (by omega), fr, by omega, rfl⟩
         | exact resSl (put_old h))
    | exact resSl (put_none (by assumption) h)
    | exact ⟨_, _, (fun r hr => by cases hr), fr, by simp only [wRows, List.length_nil]; omega, rfl⟩
    | skip
  rename_i h5
  refine awp_loop (Q := _) [9, 11, 12] [11] (fun n s => ∃ i : Int, s = ([.val false [.sl true 32 l], .ptr 11 1 0, .val false [.i .i64 i]], [(1, [.val false [.i .i64 c], .val false [.i .i64 v], .val false [.sl true 42 (mergeR [] rs)]])]) ∧ 0 ≤ i ∧ i ≤ l.length ∧ n = l.length - i.toNat ∧ (l.take i.toNat).any (before (tapeR c v (mergeR [] rs))) = false) ?_ ?_
  · exact ⟨rfl, l.length - 0, 0, rfl, by omega, by omega, rfl, rfl⟩
  rintro n s ⟨i, rfl, h1, h2, h3, h4⟩
  repeat' first
    | (refine And.intro ?_ ?_)
    | (intro h; simp only [reduceCtorEq] at h; done)
    | (intro h; rw [h])
    | (intro h)
  all_goals first
    | (show lowEdges _ = true; kernel_rfl) | (show logOk _ _ = true; kernel_rfl) | exact True.intro | exact Or.inr rfl | exact Or.inl rfl
    | omega
    | exact of_decide_eq_true ‹_›
    | (have hi : i < (l.length : Int) := of_decide_eq_true ‹decide (i < (l.length : Int)) = true›
       have wr : WfRow T [.i .i64, .i .i64, .l 42] (l.getD i.toNat []) := wl.row rfl (by omega)
       have er : csD (rowC [.i .i64, .i .i64, .l 42] (l.getD i.toNat [])) = l.getD i.toNat [] := csD_rowC wr
       have wm : WfD T (.l 42) (.l (mergeR [] rs)) := wf_sub wrs (fun r hr => (mergeR_mem hr).resolve_left (by simp)) (by simp only [maxLen]; omega)
       first
         | omega
         | exact ⟨(tapeR c v (mergeR [] rs)), _, wf_tape hc hv wm, wr, rfl⟩
         | (refine ⟨l.length - (i + 1).toNat, by omega, i + 1, ?_, by omega, by omega, rfl, any_next h1 hi h4 (before_no er h)⟩
            exact congrArg (fun z => (([.val false [.sl true 32 l], .ptr 11 1 0, .val false [.i .i64 z]], [(1, [.val false [.i .i64 c], .val false [.i .i64 v], .val false [.sl true 42 (mergeR [] rs)]])]) : Snap)) (wrap_next h1 hi ll))
         | exact resSl (put_cut (by assumption) (by assumption) (idx_found h1 hi h4 (before_yes er h))))
    | exact rfl
    | exact resSl (put_cut (by assumption) (by assumption) (idx_none h1 h2 ‹decide (i < (l.length : Int)) = false› h4))
    | (simp only [List.length_append, List.length_drop, List.length_take, List.length_nil, List.length_cons, maxLen]; omega)
    | (refine Nat.le_trans (Nat.mul_le_mul (show _ ≤ 4194304 from ?_) (show _ ≤ 40 from Nat.le_refl _)) (by decide); simp only [List.length_append, List.length_drop, List.length_take, List.length_nil, List.length_cons]; omega)
    | skip

/-- spec.NewReads -/
theorem ok8 : FOk Try.prog T 8 (spNew 32) := by
  refine fok (env := envL [(16, (spTape 32 42)), (17, (spFindF T 42 [.i .i64, .i .i64, .i .i64, .s, .i .i64, .i .i64, .i .i64, .s, .l 40, .l 9, .l 74] [.i .i64, .i .i64, .i .i64, .s, .l 40, .l 9, .l 74])), (18, (cpG T [.i .i64, .i .i64, .i .i64, .s, .i .i64, .i .i64, .i .i64, .s, .l 40, .l 9, .l 74]))]) (N := 84) tabT (envL_cons ok16 (envL_cons (spFindF_ok ok17) (envL_cons ok18 envL_nil))) mixed Try.func8 rfl Try.call8 Try.ntmps8 ?_
  rintro args ⟨a, b, fa, ha, hb, rfl⟩ hwf
  have wb : WfD T (.l 32) (.l b) := arg1 hwf (List.mem_singleton_self _)
  clear hwf
  have lb : b.length ≤ maxLen := wb.len
  refine ⟨by simp, ?_⟩
  rw [Try.results8]
  repeat' first
    | (refine And.intro ?_ ?_)
    | (intro h; simp only [reduceCtorEq] at h; done)
    | (intro h; rw [h])
    | (intro h)
  all_goals first
    | (show lowEdges _ = true; kernel_rfl) | (show logOk _ _ = true; kernel_rfl) | exact True.intro | exact Or.inr rfl | exact Or.inl rfl
    | skip
  refine awp_loop (Q := _) [0, 1, 5, 6] [] (fun n s => ∃ i : Int, s = ([argS 32 a, argS 32 b, .val false [.sl true 32 (newTo a b i.toNat)], .val false [.i .i64 i]], []) ∧ 0 ≤ i ∧ i ≤ b.length ∧ n = b.length - i.toNat) ?_ ?_
  · exact ⟨rfl, b.length - 0, 0, rfl, by omega, by omega, rfl⟩
  rintro n s ⟨i, rfl, h1, h2, h3⟩
  have hlen := newTo_len a b i.toNat (by omega)
  repeat' first
    | (refine And.intro ?_ ?_)
    | (intro h; simp only [reduceCtorEq] at h; done)
    | (intro h; rw [h])
    | (intro h)
  all_goals first
    | (show lowEdges _ = true; kernel_rfl) | (show logOk _ _ = true; kernel_rfl) | exact True.intro | exact Or.inr rfl | exact Or.inl rfl
    | exact of_decide_eq_true ‹_›
    | exact newTo_all' h1 h2 ‹decide (i < (b.length : Int)) = false›
    | omega
    | (have hi : i < (b.length : Int) := of_decide_eq_true ‹decide (i < (b.length : Int)) = true›; omega)
    | exact ⟨_, _, _, ha, rfl⟩
    | exact rfl
    | skip
  have hi : i < (b.length : Int) := of_decide_eq_true ‹decide (i < (b.length : Int)) = true›
  have wt : WfRow T [.i .i64, .i .i64, .l 42] (b.getD i.toNat []) := wb.row rfl (by omega)
  have wR : WfD T (.l 42) (.l ((b.getD i.toNat []).getD 2 default).rows) := wt.rows (j := 2) rfl
  have lR : ((b.getD i.toNat []).getD 2 default).rows.length ≤ maxLen := wR.len
  have hrow := wRow_le (a := b) (k := i.toNat) (by omega)
  have hcell := wRows_cell (b.getD i.toNat []) 2
  have hT := tapeOf_size (c := ((b.getD i.toNat []).getD 0 default).int) (v := ((b.getD i.toNat []).getD 1 default).int) ha
  have hfT := flat_tapeOf fa ((b.getD i.toNat []).getD 0 default).int ((b.getD i.toNat []).getD 1 default).int
  refine awp_loop (Q := _) [0, 1, 5, 6, 7, 8, 9] [7] (fun n s => ∃ j : Int, s = ([argS 32 a, argS 32 b, .val false [.sl true 32 (newTo a b i.toNat)], .val false [.i .i64 i], .ptr 7 1 0, .val false [.sl true 42 (tapeOf a ((b.getD i.toNat []).getD 0 default).int ((b.getD i.toNat []).getD 1 default).int)], .val false [.i .i64 j]], [(1, [.val false [.i .i64 ((b.getD i.toNat []).getD 0 default).int], .val false [.i .i64 ((b.getD i.toNat []).getD 1 default).int], .val false [.sl true 42 (newT a (b.getD i.toNat []) j.toNat)]])]) ∧ 0 ≤ j ∧ j ≤ ((b.getD i.toNat []).getD 2 default).rows.length ∧ n = ((b.getD i.toNat []).getD 2 default).rows.length - j.toNat) ?_ ?_
  · exact ⟨rfl, ((b.getD i.toNat []).getD 2 default).rows.length - 0, 0, rfl, by omega, by omega, rfl⟩
  rintro n2 s ⟨j, rfl, g1, g2, g3⟩
  have hlj := newT_len a (b.getD i.toNat []) j.toNat
  repeat' first
    | (refine And.intro ?_ ?_)
    | exact find_noRef hfT
    | (intro h; simp only [reduceCtorEq] at h; done)
    | (intro h; rw [h])
    | (intro h)
  all_goals first
    | (show lowEdges _ = true; kernel_rfl) | (show logOk _ _ = true; kernel_rfl) | exact True.intro | exact Or.inr rfl | exact Or.inl rfl
    | exact of_decide_eq_true ‹_›
    | omega
    | (have hj : j < (((b.getD i.toNat []).getD 2 default).rows.length : Int) := of_decide_eq_true ‹decide (j < (((b.getD i.toNat []).getD 2 default).rows.length : Int)) = true›
       have wr : WfRow T [.i .i64, .i .i64, .i .i64, .s, .i .i64, .i .i64, .i .i64, .s, .l 40, .l 9, .l 74] (((b.getD i.toNat []).getD 2 default).rows.getD j.toNat []) := wR.row rfl (by omega)
       have hwr := wRow_le (a := ((b.getD i.toNat []).getD 2 default).rows) (k := j.toNat) (by omega)
       have er : csD (rowC [.i .i64, .i .i64, .i .i64, .s, .i .i64, .i .i64, .i .i64, .s, .l 40, .l 9, .l 74] (((b.getD i.toNat []).getD 2 default).rows.getD j.toNat [])) = ((b.getD i.toNat []).getD 2 default).rows.getD j.toNat [] := csD_rowC wr
       have ew : wRows [csD (rowC [.i .i64, .i .i64, .i .i64, .s, .i .i64, .i .i64, .i .i64, .s, .l 40, .l 9, .l 74] (((b.getD i.toNat []).getD 2 default).rows.getD j.toNat []))] = wRow (((b.getD i.toNat []).getD 2 default).rows.getD j.toNat []) := by rw [er, wRows_one]
       first
         | omega
         | exact ⟨_, _, hT, wr, hfT, rfl⟩
         | exact ⟨_, _, _, ha, rfl⟩
         | exact ⟨_, wr, by omega, rfl⟩
         | exact ⟨[csD (rowC [.i .i64, .i .i64, .i .i64, .s, .i .i64, .i .i64, .i .i64, .s, .l 40, .l 9, .l 74] (((b.getD i.toNat []).getD 2 default).rows.getD j.toNat []))], by rw [ew]; show 1 + _ ≤ _; omega, rfl⟩
         | (show (newT a (b.getD i.toNat []) j.toNat).length + 1 ≤ maxLen; simp only [maxLen]; omega)
         | (show ((newT a (b.getD i.toNat []) j.toNat).length + 1) * 152 ≤ 140737488355328; omega)
         | (refine ⟨((b.getD i.toNat []).getD 2 default).rows.length - (j + 1).toNat, by omega, j + 1, ?_, by omega, by omega, rfl⟩
            first
              | exact snapT (fun r z => (([argS 32 a, argS 32 b, .val false [.sl true 32 (newTo a b i.toNat)], .val false [.i .i64 i], .ptr 7 1 0, .val false [.sl true 42 (tapeOf a ((b.getD i.toNat []).getD 0 default).int ((b.getD i.toNat []).getD 1 default).int)], .val false [.i .i64 z]], [(1, [.val false [.i .i64 ((b.getD i.toNat []).getD 0 default).int], .val false [.i .i64 ((b.getD i.toNat []).getD 1 default).int], .val false [.sl true 42 r]])]) : Snap)) (newT_yes g1 hj er er h) (wrap_next g1 hj lR)
              | exact snapT (fun r z => (([argS 32 a, argS 32 b, .val false [.sl true 32 (newTo a b i.toNat)], .val false [.i .i64 i], .ptr 7 1 0, .val false [.sl true 42 (tapeOf a ((b.getD i.toNat []).getD 0 default).int ((b.getD i.toNat []).getD 1 default).int)], .val false [.i .i64 z]], [(1, [.val false [.i .i64 ((b.getD i.toNat []).getD 0 default).int], .val false [.i .i64 ((b.getD i.toNat []).getD 1 default).int], .val false [.sl true 42 r]])]) : Snap)) (newT_no g1 hj er h) (wrap_next g1 hj lR)))
    | (have hj : ¬ j < (((b.getD i.toNat []).getD 2 default).rows.length : Int) := of_decide_eq_false ‹decide (j < (((b.getD i.toNat []).getD 2 default).rows.length : Int)) = false›
       first
         | (show (newTo a b i.toNat).length + 1 ≤ maxLen; simp only [maxLen]; omega)
         | (show ((newTo a b i.toNat).length + 1) * 40 ≤ 140737488355328; omega)
         | (refine ⟨b.length - (i + 1).toNat, by omega, i + 1, ?_, by omega, by omega, rfl⟩
            first
              | exact snapT (fun r z => (([argS 32 a, argS 32 b, .val false [.sl true 32 r], .val false [.i .i64 z]], []) : Snap)) (newTo_yes (j := j) h1 hi (by omega) h) (wrap_next h1 hi lb)
              | exact snapT (fun r z => (([argS 32 a, argS 32 b, .val false [.sl true 32 r], .val false [.i .i64 z]], []) : Snap)) (newTo_no (j := j) h1 hi (by omega) h) (wrap_next h1 hi lb)))
    | exact rfl
    | skip
/-- impl.NewReads -/
theorem ok6 : FOk Try.prog T 6 (spNew 32) := by
  refine fok (env := envL [(13, (spTape 32 42)), (12, (spFindF T 42 [.i .i64, .i .i64, .i .i64, .s, .i .i64, .i .i64, .i .i64, .s, .l 40, .l 9, .l 74] [.i .i64, .i .i64, .i .i64, .s, .l 40, .l 9, .l 74])), (14, (cpS 42))]) (N := 63) tabT (envL_cons ok13 (envL_cons (spFindF_ok ok12) (envL_cons ok14 envL_nil))) mixed Try.func6 rfl Try.call6 Try.ntmps6 ?_
  rintro args ⟨a, b, fa, ha, hb, rfl⟩ hwf
  have wb : WfD T (.l 32) (.l b) := arg1 hwf (List.mem_singleton_self _)
  clear hwf
  have lb : b.length ≤ maxLen := wb.len
  refine ⟨by simp, ?_⟩
  rw [Try.results6]
  repeat' first
    | (refine And.intro ?_ ?_)
    | (intro h; simp only [reduceCtorEq] at h; done)
    | (intro h; rw [h])
    | (intro h)
  all_goals first
    | (show lowEdges _ = true; kernel_rfl) | (show logOk _ _ = true; kernel_rfl) | exact True.intro | exact Or.inr rfl | exact Or.inl rfl
    | skip
  refine awp_loop (Q := _) [0, 5, 14, 15, 16] [] (fun n s => ∃ i : Int, s = ([argS 32 a, .val false [.sl true 32 (newTo a b i.toNat)], argS 32 b, .val false [.i .i64 b.length], .val false [.i .i64 i]], []) ∧ 0 ≤ i ∧ i ≤ b.length ∧ n = b.length - i.toNat) ?_ ?_
  · exact ⟨rfl, b.length - 0, 0, rfl, by omega, by omega, rfl⟩
  rintro n s ⟨i, rfl, h1, h2, h3⟩
  have hlen := newTo_len a b i.toNat (by omega)
  repeat' first
    | (refine And.intro ?_ ?_)
    | (intro h; simp only [reduceCtorEq] at h; done)
    | (intro h; rw [h])
    | (intro h)
  all_goals first
    | (show lowEdges _ = true; kernel_rfl) | (show logOk _ _ = true; kernel_rfl) | exact True.intro | exact Or.inr rfl | exact Or.inl rfl
    | exact of_decide_eq_true ‹_›
    | exact newTo_all' h1 h2 ‹decide (i < (b.length : Int)) = false›
    | omega
    | (have hi : i < (b.length : Int) := of_decide_eq_true ‹decide (i < (b.length : Int)) = true›; omega)
    | exact ⟨_, _, _, ha, rfl⟩
    | exact rfl
    | skip
  have hi : i < (b.length : Int) := of_decide_eq_true ‹decide (i < (b.length : Int)) = true›
  have wt : WfRow T [.i .i64, .i .i64, .l 42] (b.getD i.toNat []) := wb.row rfl (by omega)
  have wR : WfD T (.l 42) (.l ((b.getD i.toNat []).getD 2 default).rows) := wt.rows (j := 2) rfl
  have lR : ((b.getD i.toNat []).getD 2 default).rows.length ≤ maxLen := wR.len
  have hrow := wRow_le (a := b) (k := i.toNat) (by omega)
  have hcell := wRows_cell (b.getD i.toNat []) 2
  have hT := tapeOf_size (c := ((b.getD i.toNat []).getD 0 default).int) (v := ((b.getD i.toNat []).getD 1 default).int) ha
  have hfT := flat_tapeOf fa ((b.getD i.toNat []).getD 0 default).int ((b.getD i.toNat []).getD 1 default).int
  refine awp_loop (Q := _) [0, 5, 14, 15, 16, 7, 8, 26, 27, 28] [7, 8] (fun n s => ∃ j : Int, s = ([argS 32 a, .val false [.sl true 32 (newTo a b i.toNat)], argS 32 b, .val false [.i .i64 b.length], .val false [.i .i64 i], .ptr 7 1 0, .ptr 8 1 0, .val false [.sl false 42 ((b.getD i.toNat []).getD 2 default).rows], .val false [.i .i64 ((b.getD i.toNat []).getD 2 default).rows.length], .val false [.i .i64 j]], [(1, (rowC [.i .i64, .i .i64, .l 42] (b.getD i.toNat [])).map fun c => .val false [c]), (1, [.val false [.i .i64 ((b.getD i.toNat []).getD 0 default).int], .val false [.i .i64 ((b.getD i.toNat []).getD 1 default).int], .val false [.sl true 42 (newT a (b.getD i.toNat []) j.toNat)]])]) ∧ 0 ≤ j ∧ j ≤ ((b.getD i.toNat []).getD 2 default).rows.length ∧ n = ((b.getD i.toNat []).getD 2 default).rows.length - j.toNat) ?_ ?_
  · exact ⟨rfl, ((b.getD i.toNat []).getD 2 default).rows.length - 0, 0, rfl, by omega, by omega, rfl⟩
  rintro n2 s ⟨j, rfl, g1, g2, g3⟩
  have hlj := newT_len a (b.getD i.toNat []) j.toNat
  repeat' first
    | (refine And.intro ?_ ?_)
    | exact find_noRef hfT
    | (intro h; simp only [reduceCtorEq] at h; done)
    | (intro h; rw [h])
    | (intro h)
  all_goals first
    | (show lowEdges _ = true; kernel_rfl) | (show logOk _ _ = true; kernel_rfl) | exact True.intro | exact Or.inr rfl | exact Or.inl rfl
    | exact of_decide_eq_true ‹_›
    | omega
    | (have hj : j < (((b.getD i.toNat []).getD 2 default).rows.length : Int) := of_decide_eq_true ‹decide (j < (((b.getD i.toNat []).getD 2 default).rows.length : Int)) = true›
       have wr : WfRow T [.i .i64, .i .i64, .i .i64, .s, .i .i64, .i .i64, .i .i64, .s, .l 40, .l 9, .l 74] (((b.getD i.toNat []).getD 2 default).rows.getD j.toNat []) := wR.row rfl (by omega)
       have hwr := wRow_le (a := ((b.getD i.toNat []).getD 2 default).rows) (k := j.toNat) (by omega)
       have er : csD (rowC [.i .i64, .i .i64, .i .i64, .s, .i .i64, .i .i64, .i .i64, .s, .l 40, .l 9, .l 74] (((b.getD i.toNat []).getD 2 default).rows.getD j.toNat [])) = ((b.getD i.toNat []).getD 2 default).rows.getD j.toNat [] := csD_rowC wr
       have ew : wRows [csD (rowC [.i .i64, .i .i64, .i .i64, .s, .i .i64, .i .i64, .i .i64, .s, .l 40, .l 9, .l 74] (((b.getD i.toNat []).getD 2 default).rows.getD j.toNat []))] = wRow (((b.getD i.toNat []).getD 2 default).rows.getD j.toNat []) := by rw [er, wRows_one]
       first
         | omega
         | exact ⟨_, _, hT, wr, hfT, rfl⟩
         | exact ⟨_, _, _, ha, rfl⟩
         | exact ⟨_, wr, by omega, rfl⟩
         | exact ⟨[csD (rowC [.i .i64, .i .i64, .i .i64, .s, .i .i64, .i .i64, .i .i64, .s, .l 40, .l 9, .l 74] (((b.getD i.toNat []).getD 2 default).rows.getD j.toNat []))], by rw [ew]; show 1 + _ ≤ _; omega, rfl⟩
         | (show (newT a (b.getD i.toNat []) j.toNat).length + 1 ≤ maxLen; simp only [maxLen]; omega)
         | (show ((newT a (b.getD i.toNat []) j.toNat).length + 1) * 152 ≤ 140737488355328; omega)
         | (refine ⟨((b.getD i.toNat []).getD 2 default).rows.length - (j + 1).toNat, by omega, j + 1, ?_, by omega, by omega, rfl⟩
            first
              | exact snapT (fun r z => (([argS 32 a, .val false [.sl true 32 (newTo a b i.toNat)], argS 32 b, .val false [.i .i64 b.length], .val false [.i .i64 i], .ptr 7 1 0, .ptr 8 1 0, .val false [.sl false 42 ((b.getD i.toNat []).getD 2 default).rows], .val false [.i .i64 ((b.getD i.toNat []).getD 2 default).rows.length], .val false [.i .i64 z]], [(1, (rowC [.i .i64, .i .i64, .l 42] (b.getD i.toNat [])).map fun c => .val false [c]), (1, [.val false [.i .i64 ((b.getD i.toNat []).getD 0 default).int], .val false [.i .i64 ((b.getD i.toNat []).getD 1 default).int], .val false [.sl true 42 r]])]) : Snap)) (newT_yes g1 hj er er h) (wrap_next g1 hj lR)
              | exact snapT (fun r z => (([argS 32 a, .val false [.sl true 32 (newTo a b i.toNat)], argS 32 b, .val false [.i .i64 b.length], .val false [.i .i64 i], .ptr 7 1 0, .ptr 8 1 0, .val false [.sl false 42 ((b.getD i.toNat []).getD 2 default).rows], .val false [.i .i64 ((b.getD i.toNat []).getD 2 default).rows.length], .val false [.i .i64 z]], [(1, (rowC [.i .i64, .i .i64, .l 42] (b.getD i.toNat [])).map fun c => .val false [c]), (1, [.val false [.i .i64 ((b.getD i.toNat []).getD 0 default).int], .val false [.i .i64 ((b.getD i.toNat []).getD 1 default).int], .val false [.sl true 42 r]])]) : Snap)) (newT_no g1 hj er h) (wrap_next g1 hj lR)))
    | (have hj : ¬ j < (((b.getD i.toNat []).getD 2 default).rows.length : Int) := of_decide_eq_false ‹decide (j < (((b.getD i.toNat []).getD 2 default).rows.length : Int)) = false›
       first
         | (show (newTo a b i.toNat).length + 1 ≤ maxLen; simp only [maxLen]; omega)
         | (show ((newTo a b i.toNat).length + 1) * 40 ≤ 140737488355328; omega)
         | (refine ⟨b.length - (i + 1).toNat, by omega, i + 1, ?_, by omega, by omega, rfl⟩
            first
              | exact snapT (fun r z => (([argS 32 a, .val false [.sl true 32 r], argS 32 b, .val false [.i .i64 b.length], .val false [.i .i64 z]], []) : Snap)) (newTo_yes (j := j) h1 hi (by omega) h) (wrap_next h1 hi lb)
              | exact snapT (fun r z => (([argS 32 a, .val false [.sl true 32 r], argS 32 b, .val false [.i .i64 b.length], .val false [.i .i64 z]], []) : Snap)) (newTo_no (j := j) h1 hi (by omega) h) (wrap_next h1 hi lb)))
    | exact rfl
    | skip
end Go.Proofs.Ytfmjpoibfpgfbaa.Ab
