/- Finding and merging reads: printed by a program of this claim. -/
import Derived.Test.YtfmjpoibfpgfbaaNd
import Derived.Test.YtfmjpoibfpgfbaaCc
import Derived.Test.YtfmjpoibfpgfbaaCe
namespace Go.Proofs.Ytfmjpoibfpgfbaa.Ab
open Go.RowKit
set_option linter.unusedVariables false
set_option linter.unusedSimpArgs false
set_option maxRecDepth 100000
set_option maxHeartbeats 1000000
/-- impl.FindRead -/
theorem ok12 : FOk Try.prog T 12 (spFind T 42 [.i .i64, .i .i64, .i .i64, .s, .i .i64, .i .i64, .i .i64, .s, .l 40, .l 9, .l 74] [.i .i64, .i .i64, .i .i64, .s, .l 40, .l 9, .l 74]) := by
  refine fok (env := envL [(26, (eqP [.i .i64, .i .i64, .i .i64, .s, .i .i64, .i .i64, .i .i64, .s, .l 40, .l 9, .l 74] 4)), (27, (cpG T [.i .i64, .i .i64, .i .i64, .s, .l 40, .l 9, .l 74]))]) (N := 22) tabT (envL_cons ok26 (envL_cons ok27 envL_nil)) mixed Try.func12 rfl Try.call12 Try.ntmps12 ?_
  rintro args ⟨l, q, hw, wq, rfl⟩ hwf
  have wl : WfD T (.l 42) (.l l) := arg0 hwf (List.mem_singleton_self _)
  clear hwf
  have ll : l.length ≤ maxLen := wl.len
  have eq : csD (rowC [.i .i64, .i .i64, .i .i64, .s, .i .i64, .i .i64, .i .i64, .s, .l 40, .l 9, .l 74] q) = q := csD_rowC wq
  refine ⟨by simp, ?_⟩
  rw [Try.results12]
  repeat' first
    | (refine And.intro ?_ ?_)
    | (intro h; simp only [reduceCtorEq] at h; done)
    | (intro h; rw [h])
    | (intro h)
  all_goals first
    | (show lowEdges _ = true; kernel_rfl) | (show logOk _ _ = true; kernel_rfl) | exact True.intro | exact Or.inr rfl | exact Or.inl rfl
    | skip
  refine awp_loop (Q := _) [3, 4, 8, 9, 10] [3, 4] (fun n s => ∃ i : Int, s = ([.ptr 3 1 0, .ptr 4 1 0, argS 42 l, .val false [.i .i64 l.length], .val false [.i .i64 i]], [(1, (rowC [.i .i64, .i .i64, .i .i64, .s, .i .i64, .i .i64, .i .i64, .s, .l 40, .l 9, .l 74] q).map fun c => .val false [c]), (1, [.val false [.i .i64 0], .val false [.i .i64 0], .val false [.i .i64 0], .val false [.s ByteArray.empty], .val false [.sl true 40 []], .val false [.sl true 9 []], .val false [.sl true 74 []]])]) ∧ 0 ≤ i ∧ i ≤ l.length ∧ n = l.length - i.toNat ∧ (l.take i.toNat).any (sameK q) = false) ?_ ?_
  · exact ⟨rfl, l.length - 0, 0, rfl, by omega, by omega, rfl, rfl⟩
  rintro n s ⟨i, rfl, h1, h2, h3, h4⟩
  repeat' first
    | (refine And.intro ?_ ?_)
    | (intro h; simp only [reduceCtorEq] at h; done)
    | (intro h; rw [h])
    | (intro h)
  all_goals first
    | (show lowEdges _ = true; kernel_rfl) | (show logOk _ _ = true; kernel_rfl) | exact True.intro | exact Or.inr rfl | exact Or.inl rfl
    | omega
    | exact of_decide_eq_true ‹_›
    | (have hi : i < (l.length : Int) := of_decide_eq_true ‹decide (i < (l.length : Int)) = true›
       have wr : WfRow T [.i .i64, .i .i64, .i .i64, .s, .i .i64, .i .i64, .i .i64, .s, .l 40, .l 9, .l 74] (l.getD i.toNat []) := wl.row rfl (by omega)
       have hwr := wRow_le (a := l) (k := i.toNat) (by omega)
       have er : csD (rowC [.i .i64, .i .i64, .i .i64, .s, .i .i64, .i .i64, .i .i64, .s, .l 40, .l 9, .l 74] (l.getD i.toNat [])) = l.getD i.toNat [] := csD_rowC wr
       first
         | exact ⟨_, _, wr, wq, rfl⟩
         | exact ⟨_, wr.sub 4 7 (by decide), Nat.le_trans (wSub_le (by rw [wr.1]; decide)) (by omega), rfl⟩
         | (refine ⟨l.length - (i + 1).toNat, by omega, i + 1, ?_, by omega, by omega, rfl, any_next h1 hi h4 ?_⟩
            · exact congrArg (fun z => (([.ptr 3 1 0, .ptr 4 1 0, argS 42 l, .val false [.i .i64 l.length], .val false [.i .i64 z]], [(1, (rowC [.i .i64, .i .i64, .i .i64, .s, .i .i64, .i .i64, .i .i64, .s, .l 40, .l 9, .l 74] q).map fun c => .val false [c]), (1, [.val false [.i .i64 0], .val false [.i .i64 0], .val false [.i .i64 0], .val false [.s ByteArray.empty], .val false [.sl true 40 []], .val false [.sl true 9 []], .val false [.sl true 74 []]])]) : Snap)) (wrap_next h1 hi ll)
            · rw [← er, ← eq]; exact h)
         | (have hf := find_at (p := sameK q) h1 hi h4 (by rw [← er, ← eq]; exact h)
            exact resF eq hf _ rfl))
    | exact rfl
    | exact resFN eq (find_no h1 h2 ‹decide (i < (l.length : Int)) = false› h4) _ rfl
    | skip
/-- spec.FindRead -/
theorem ok17 : FOk Try.prog T 17 (spFind T 42 [.i .i64, .i .i64, .i .i64, .s, .i .i64, .i .i64, .i .i64, .s, .l 40, .l 9, .l 74] [.i .i64, .i .i64, .i .i64, .s, .l 40, .l 9, .l 74]) := by
  refine fok (env := envL [(32, (eqP [.i .i64, .i .i64, .i .i64, .s, .i .i64, .i .i64, .i .i64, .s, .l 40, .l 9, .l 74] 4)), (33, (cpG T [.i .i64, .i .i64, .i .i64, .s, .l 40, .l 9, .l 74]))]) (N := 26) tabT (envL_cons ok32 (envL_cons ok33 envL_nil)) mixed Try.func17 rfl Try.call17 Try.ntmps17 ?_
  rintro args ⟨l, q, hw, wq, rfl⟩ hwf
  have wl : WfD T (.l 42) (.l l) := arg0 hwf (List.mem_singleton_self _)
  clear hwf
  have ll : l.length ≤ maxLen := wl.len
  have eq : csD (rowC [.i .i64, .i .i64, .i .i64, .s, .i .i64, .i .i64, .i .i64, .s, .l 40, .l 9, .l 74] q) = q := csD_rowC wq
  refine ⟨by simp, ?_⟩
  rw [Try.results17]
  repeat' first
    | (refine And.intro ?_ ?_)
    | (intro h; simp only [reduceCtorEq] at h; done)
    | (intro h; rw [h])
    | (intro h)
  all_goals first
    | (show lowEdges _ = true; kernel_rfl) | (show logOk _ _ = true; kernel_rfl) | exact True.intro | exact Or.inr rfl | exact Or.inl rfl
    | skip
  refine awp_loop (Q := _) [0, 3, 4, 6] [3, 4] (fun n s => ∃ i : Int, s = ([argS 42 l, .ptr 3 1 0, .ptr 4 1 0, .val false [.i .i64 i]], [(1, (rowC [.i .i64, .i .i64, .i .i64, .s, .i .i64, .i .i64, .i .i64, .s, .l 40, .l 9, .l 74] q).map fun c => .val false [c]), (1, [.val false [.i .i64 0], .val false [.i .i64 0], .val false [.i .i64 0], .val false [.s ByteArray.empty], .val false [.sl true 40 []], .val false [.sl true 9 []], .val false [.sl true 74 []]])]) ∧ 0 ≤ i ∧ i ≤ l.length ∧ n = l.length - i.toNat ∧ (l.take i.toNat).any (sameK q) = false) ?_ ?_
  · exact ⟨rfl, l.length - 0, 0, rfl, by omega, by omega, rfl, rfl⟩
  rintro n s ⟨i, rfl, h1, h2, h3, h4⟩
  repeat' first
    | (refine And.intro ?_ ?_)
    | (intro h; simp only [reduceCtorEq] at h; done)
    | (intro h; rw [h])
    | (intro h)
  all_goals first
    | (show lowEdges _ = true; kernel_rfl) | (show logOk _ _ = true; kernel_rfl) | exact True.intro | exact Or.inr rfl | exact Or.inl rfl
    | omega
    | exact of_decide_eq_true ‹_›
    | (have hi : i < (l.length : Int) := of_decide_eq_true ‹decide (i < (l.length : Int)) = true›
       have wr : WfRow T [.i .i64, .i .i64, .i .i64, .s, .i .i64, .i .i64, .i .i64, .s, .l 40, .l 9, .l 74] (l.getD i.toNat []) := wl.row rfl (by omega)
       have hwr := wRow_le (a := l) (k := i.toNat) (by omega)
       have er : csD (rowC [.i .i64, .i .i64, .i .i64, .s, .i .i64, .i .i64, .i .i64, .s, .l 40, .l 9, .l 74] (l.getD i.toNat [])) = l.getD i.toNat [] := csD_rowC wr
       first
         | exact ⟨_, _, wr, wq, rfl⟩
         | exact ⟨_, wr.sub 4 7 (by decide), Nat.le_trans (wSub_le (by rw [wr.1]; decide)) (by omega), rfl⟩
         | (refine ⟨l.length - (i + 1).toNat, by omega, i + 1, ?_, by omega, by omega, rfl, any_next h1 hi h4 ?_⟩
            · exact congrArg (fun z => (([argS 42 l, .ptr 3 1 0, .ptr 4 1 0, .val false [.i .i64 z]], [(1, (rowC [.i .i64, .i .i64, .i .i64, .s, .i .i64, .i .i64, .i .i64, .s, .l 40, .l 9, .l 74] q).map fun c => .val false [c]), (1, [.val false [.i .i64 0], .val false [.i .i64 0], .val false [.i .i64 0], .val false [.s ByteArray.empty], .val false [.sl true 40 []], .val false [.sl true 9 []], .val false [.sl true 74 []]])]) : Snap)) (wrap_next h1 hi ll)
            · rw [← er, ← eq]; exact h)
         | (have hf := find_at (p := sameK q) h1 hi h4 (by rw [← er, ← eq]; exact h)
            exact resF eq hf _ rfl))
    | exact rfl
    | exact resFN eq (find_no h1 h2 ‹decide (i < (l.length : Int)) = false› h4) _ rfl
    | skip
/-- impl.tapeIndex -/
theorem ok28 : FOk Try.prog T 28 (spAt 32) := by
  refine fok (env := envL []) (N := 28) tabT envL_nil mixed Try.func28 rfl Try.call28 Try.ntmps28 ?_
  rintro args ⟨l, c, v, rfl⟩ hwf
  have wl : WfD T (.l 32) (.l l) := arg0 hwf (List.mem_cons_self ..)
  clear hwf
  have ll : l.length ≤ maxLen := wl.len
  refine ⟨by simp, ?_⟩
  rw [Try.results28]
  repeat' first
    | (refine And.intro ?_ ?_)
    | (intro h; simp only [reduceCtorEq] at h; done)
    | (intro h; rw [h])
    | (intro h)
  all_goals first
    | (show lowEdges _ = true; kernel_rfl) | (show logOk _ _ = true; kernel_rfl) | exact True.intro | exact Or.inr rfl | exact Or.inl rfl
    | skip
  refine awp_loop (Q := _) [1, 2, 9, 10, 11] [] (fun n s => ∃ i : Int, s = ([.val false [.i .i64 c], .val false [.i .i64 v], argS 32 l, .val false [.i .i64 l.length], .val false [.i .i64 i]], []) ∧ 0 ≤ i ∧ i ≤ l.length ∧ n = l.length - i.toNat ∧ (l.take i.toNat).any (keyT c v) = false) ?_ ?_
  · exact ⟨rfl, l.length - 0, 0, rfl, by omega, by omega, rfl, rfl⟩
  rintro n s ⟨i, rfl, h1, h2, h3, h4⟩
  repeat' first
    | (refine And.intro ?_ ?_)
    | (intro h; simp only [reduceCtorEq] at h; done)
    | (intro h; rw [h])
    | (intro h)
  all_goals first
    | (show lowEdges _ = true; kernel_rfl) | (show logOk _ _ = true; kernel_rfl) | exact True.intro | exact Or.inr rfl | exact Or.inl rfl
    | omega
    | exact of_decide_eq_true ‹_›
    | (have hi : i < (l.length : Int) := of_decide_eq_true ‹decide (i < (l.length : Int)) = true›
       first
         | exact resI (at_found h1 hi h4 (key_yes (by assumption) (by assumption))).symm
         | (refine ⟨l.length - (i + 1).toNat, by omega, i + 1, ?_, by omega, by omega, rfl, any_next h1 hi h4 ?_⟩
            · exact congrArg (fun z => (([.val false [.i .i64 c], .val false [.i .i64 v], argS 32 l, .val false [.i .i64 l.length], .val false [.i .i64 z]], []) : Snap)) (wrap_next h1 hi ll)
            · first
                | exact key_no1 (by assumption)
                | exact key_no2 (by assumption)))
    | exact rfl
    | exact resI (at_none h1 h2 ‹decide (i < (l.length : Int)) = false› h4).symm
    | skip
/-- spec.l26At -/
theorem ok20 : FOk Try.prog T 20 (spAt 32) := by
  refine fok (env := envL []) (N := 31) tabT envL_nil mixed Try.func20 rfl Try.call20 Try.ntmps20 ?_
  rintro args ⟨l, c, v, rfl⟩ hwf
  have wl : WfD T (.l 32) (.l l) := arg0 hwf (List.mem_cons_self ..)
  clear hwf
  have ll : l.length ≤ maxLen := wl.len
  refine ⟨by simp, ?_⟩
  rw [Try.results20]
  repeat' first
    | (refine And.intro ?_ ?_)
    | (intro h; simp only [reduceCtorEq] at h; done)
    | (intro h; rw [h])
    | (intro h)
  all_goals first
    | (show lowEdges _ = true; kernel_rfl) | (show logOk _ _ = true; kernel_rfl) | exact True.intro | exact Or.inr rfl | exact Or.inl rfl
    | skip
  refine awp_loop (Q := _) [0, 1, 2, 7] [] (fun n s => ∃ i : Int, s = ([argS 32 l, .val false [.i .i64 c], .val false [.i .i64 v], .val false [.i .i64 i]], []) ∧ 0 ≤ i ∧ i ≤ l.length ∧ n = l.length - i.toNat ∧ (l.take i.toNat).any (keyT c v) = false) ?_ ?_
  · exact ⟨rfl, l.length - 0, 0, rfl, by omega, by omega, rfl, rfl⟩
  rintro n s ⟨i, rfl, h1, h2, h3, h4⟩
  repeat' first
    | (refine And.intro ?_ ?_)
    | (intro h; simp only [reduceCtorEq] at h; done)
    | (intro h; rw [h])
    | (intro h)
  all_goals first
    | (show lowEdges _ = true; kernel_rfl) | (show logOk _ _ = true; kernel_rfl) | exact True.intro | exact Or.inr rfl | exact Or.inl rfl
    | omega
    | exact of_decide_eq_true ‹_›
    | (have hi : i < (l.length : Int) := of_decide_eq_true ‹decide (i < (l.length : Int)) = true›
       first
         | exact resI (at_found h1 hi h4 (key_yes (by assumption) (by assumption))).symm
         | (refine ⟨l.length - (i + 1).toNat, by omega, i + 1, ?_, by omega, by omega, rfl, any_next h1 hi h4 ?_⟩
            · exact congrArg (fun z => (([argS 32 l, .val false [.i .i64 c], .val false [.i .i64 v], .val false [.i .i64 z]], []) : Snap)) (wrap_next h1 hi ll)
            · first
                | exact key_no1 (by assumption)
                | exact key_no2 (by assumption)))
    | exact rfl
    | exact resI (at_none h1 h2 ‹decide (i < (l.length : Int)) = false› h4).symm
    | skip
/-- impl.TapeOf -/
theorem ok13 : FOk Try.prog T 13 (spTape 32 42) := by
  refine fok (env := envL [(28, (spAt 32)), (14, (cpS 42))]) (N := 20) tabT (envL_cons ok28 (envL_cons ok14 envL_nil)) mixed Try.func13 rfl Try.call13 Try.ntmps13 ?_
  rintro args ⟨l, c, v, hw, rfl⟩ hwf
  have wl : WfD T (.l 32) (.l l) := arg0 hwf (List.mem_cons_self ..)
  clear hwf
  refine ⟨by simp, ?_⟩
  have ha := atI_in l c v
  rw [Try.results13]
  repeat' first
    | (refine And.intro ?_ ?_)
    | (intro h; simp only [reduceCtorEq] at h; done)
    | (intro h; rw [h])
    | (intro h)
  all_goals first
    | (show lowEdges _ = true; kernel_rfl) | (show logOk _ _ = true; kernel_rfl) | exact True.intro | exact Or.inr rfl | exact Or.inl rfl
    | exact ⟨_, _, _, rfl⟩
    | exact resSl (if_pos (of_decide_eq_true h)).symm
    | (have hn : ¬ atI l c v < 0 := of_decide_eq_false h
       have hwr := wRow_le (a := l) (k := (atI l c v).toNat) (by omega)
       first
         | omega
         | exact ⟨_, Nat.le_trans (wRows_cell (l.getD (atI l c v).toNat []) 2) (by omega), rfl⟩
         | exact resSl (if_neg hn).symm)
    | skip
/-- spec.TapeOf -/
theorem ok16 : FOk Try.prog T 16 (spTape 32 42) := by
  refine fok (env := envL [(20, (spAt 32)), (31, (cpS 42))]) (N := 21) tabT (envL_cons ok20 (envL_cons ok31 envL_nil)) mixed Try.func16 rfl Try.call16 Try.ntmps16 ?_
  rintro args ⟨l, c, v, hw, rfl⟩ hwf
  have wl : WfD T (.l 32) (.l l) := arg0 hwf (List.mem_cons_self ..)
  clear hwf
  refine ⟨by simp, ?_⟩
  have ha := atI_in l c v
  rw [Try.results16]
  repeat' first
    | (refine And.intro ?_ ?_)
    | (intro h; simp only [reduceCtorEq] at h; done)
    | (intro h; rw [h])
    | (intro h)
  all_goals first
    | (show lowEdges _ = true; kernel_rfl) | (show logOk _ _ = true; kernel_rfl) | exact True.intro | exact Or.inr rfl | exact Or.inl rfl
    | exact ⟨_, _, _, rfl⟩
    | exact resSl (if_pos (of_decide_eq_true h)).symm
    | (have hn : ¬ atI l c v < 0 := of_decide_eq_false h
       have hwr := wRow_le (a := l) (k := (atI l c v).toNat) (by omega)
       first
         | omega
         | exact ⟨_, Nat.le_trans (wRows_cell (l.getD (atI l c v).toNat []) 2) (by omega), rfl⟩
         | exact resSl (if_neg hn).symm)
    | skip
/-- spec.MergeReads -/
theorem ok21 : FOk Try.prog T 21 (spMerge 42) := by
  refine fok (env := envL [(31, (cpS 42)), (17, (spFindF T 42 [.i .i64, .i .i64, .i .i64, .s, .i .i64, .i .i64, .i .i64, .s, .l 40, .l 9, .l 74] [.i .i64, .i .i64, .i .i64, .s, .l 40, .l 9, .l 74])), (18, (cpG T [.i .i64, .i .i64, .i .i64, .s, .i .i64, .i .i64, .i .i64, .s, .l 40, .l 9, .l 74]))]) (N := 37) tabT (envL_cons ok31 (envL_cons (spFindF_ok ok17) (envL_cons ok18 envL_nil))) mixed Try.func21 rfl Try.call21 Try.ntmps21 ?_
  rintro args ⟨a, b, fa, fb, hw, rfl⟩ hwf
  have wb : WfD T (.l 42) (.l b) := arg1 hwf (List.mem_singleton_self _)
  clear hwf
  have lb : b.length ≤ maxLen := wb.len
  refine ⟨by simp, ?_⟩
  rw [Try.results21]
  repeat' first
    | (refine And.intro ?_ ?_)
    | (intro h; simp only [reduceCtorEq] at h; done)
    | (intro h; rw [h])
    | (intro h)
  all_goals first
    | (show lowEdges _ = true; kernel_rfl) | (show logOk _ _ = true; kernel_rfl) | exact True.intro | exact Or.inr rfl | exact Or.inl rfl
    | exact ⟨_, by omega, rfl⟩
    | skip
  refine awp_loop (Q := _) [1, 5, 6] [] (fun n s => ∃ i : Int, s = ([argS 42 b, .val false [.sl true 42 (mergeTo a b i.toNat)], .val false [.i .i64 i]], []) ∧ 0 ≤ i ∧ i ≤ b.length ∧ n = b.length - i.toNat) ?_ ?_
  · exact ⟨rfl, b.length - 0, 0, rfl, by omega, by omega, rfl⟩
  rintro n s ⟨i, rfl, h1, h2, h3⟩
  have hsz := mergeTo_size a b i.toNat (by omega)
  have hle := wRows_le b i.toNat
  have hfl := flat_mergeTo fa fb i.toNat (by omega)
  repeat' first
    | (refine And.intro ?_ ?_)
    | exact find_noRef hfl
    | (intro h; simp only [reduceCtorEq] at h; done)
    | (intro h; rw [h])
    | (intro h)
  all_goals first
    | (show lowEdges _ = true; kernel_rfl) | (show logOk _ _ = true; kernel_rfl) | exact True.intro | exact Or.inr rfl | exact Or.inl rfl
    | omega
    | exact of_decide_eq_true ‹_›
    | (have hi : i < (b.length : Int) := of_decide_eq_true ‹decide (i < (b.length : Int)) = true›
       have wr : WfRow T [.i .i64, .i .i64, .i .i64, .s, .i .i64, .i .i64, .i .i64, .s, .l 40, .l 9, .l 74] (b.getD i.toNat []) := wb.row rfl (by omega)
       have hwr := wRow_le (a := b) (k := i.toNat) (by omega)
       have er : csD (rowC [.i .i64, .i .i64, .i .i64, .s, .i .i64, .i .i64, .i .i64, .s, .l 40, .l 9, .l 74] (b.getD i.toNat [])) = b.getD i.toNat [] := csD_rowC wr
       first
         | exact ⟨_, _, by omega, wr, hfl, rfl⟩
         | exact find_noRef hfl
         | exact ⟨_, wr, by omega, rfl⟩
         | (show (mergeTo a b i.toNat).length + 1 ≤ maxLen; simp only [maxLen]; omega)
         | (show ((mergeTo a b i.toNat).length + 1) * 152 ≤ 140737488355328; omega)
         | (refine ⟨b.length - (i + 1).toNat, by omega, i + 1, ?_, by omega, by omega, rfl⟩
            first
              | exact snapT (fun r z => (([argS 42 b, .val false [.sl true 42 r], .val false [.i .i64 z]], []) : Snap)) (merge_yes h1 hi er h) (wrap_next h1 hi lb)
              | exact snapT (fun r z => (([argS 42 b, .val false [.sl true 42 r], .val false [.i .i64 z]], []) : Snap)) (merge_no h1 hi er er h) (wrap_next h1 hi lb)))
    | exact rfl
    | exact resSl (merge_all h1 h2 ‹decide (i < (b.length : Int)) = false›)
    | skip
/-- spec.l26Before -/
theorem ok22 : FOk Try.prog T 22 (spBefore T [.i .i64, .i .i64, .l 42]) := by
  refine fok (env := envL []) (N := 24) tabT envL_nil mixed Try.func22 rfl Try.call22 Try.ntmps22 ?_
  rintro args ⟨x, y, wx, wy, rfl⟩ hwf
  clear hwf
  refine ⟨by simp, ?_⟩
  rw [Try.results22]
  repeat' first
    | (refine And.intro ?_ ?_)
    | (intro h; simp only [reduceCtorEq] at h; done)
    | (intro h; rw [h])
    | (intro h)
  all_goals first
    | (show lowEdges _ = true; kernel_rfl) | (show logOk _ _ = true; kernel_rfl) | exact True.intro | exact Or.inr rfl | exact Or.inl rfl
    | (refine resB ?_; rw [csD_rowC wx, csD_rowC wy]; clear wx wy; simp_all [before]; done)
    | skip
end Go.Proofs.Ytfmjpoibfpgfbaa.Ab
