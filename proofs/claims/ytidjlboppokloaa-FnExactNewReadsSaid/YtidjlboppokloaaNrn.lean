/- Finding reads and tapes: printed by a program of this claim. -/
import Derived.Test.YtidjlboppokloaaNd
import Derived.Test.YtidjlboppokloaaCcn
namespace Go.Proofs.Ytidjlboppokloaa.Ab
open Go.RowKit
set_option linter.unusedVariables false
set_option linter.unusedSimpArgs false
set_option maxRecDepth 100000
set_option maxHeartbeats 1000000
/-- impl.sameRead -/
theorem ok44 : FOk Try.prog T 44 (eqP [.i .i64, .i .i64, .i .i64, .s, .i .i64, .i .i64, .i .i64, .s, .l 60, .l 9, .l 114] 4) := by
  refine fok (env := envL []) (N := 31) tabT envL_nil mixed Try.func44 rfl Try.call44 Try.ntmps44 ?_
  rintro args ⟨a, b, wa, wb, rfl⟩ hwf
  refine ⟨by simp, ?_⟩
  clear hwf
  rw [Try.results44]
  repeat' first
    | (refine And.intro ?_ ?_)
    | (intro h; cases h)
    | (intro h; rw [h])
    | (intro h)
  all_goals first
    | (show lowEdges _ = true; kernel_rfl) | (show logOk _ _ = true; kernel_rfl) | exact True.intro | exact rfl | exact Or.inr rfl | exact Or.inl rfl
    | exact ⟨_, _, rfl⟩
    | exact ⟨sub a 0 1, sub b 0 1, wa.sub 0 1 (by decide), wb.sub 0 1 (by decide), rfl⟩
    | exact ⟨sub a 1 1, sub b 1 1, wa.sub 1 1 (by decide), wb.sub 1 1 (by decide), rfl⟩
    | exact ⟨sub a 2 1, sub b 2 1, wa.sub 2 1 (by decide), wb.sub 2 1 (by decide), rfl⟩
    | exact ⟨sub a 3 1, sub b 3 1, wa.sub 3 1 (by decide), wb.sub 3 1 (by decide), rfl⟩
    | exact ⟨sub a 4 7, sub b 4 7, wa.sub 4 7 (by decide), wb.sub 4 7 (by decide), rfl⟩
    | (refine res_no ?_; simp_all [eqDs, eqD, str_inj, csD, CV.d, rowC, ofD, argG, sub, List.zipIdx, List.range, List.range.loop]; done)
    | (refine res_no ?_; simp_all [eqDs, eqD, str_inj, csD, CV.d, rowC, ofD, argG, sub, List.zipIdx, List.range, List.range.loop]; done)
    | (refine res_yes ?_; simp_all [eqDs, eqD, str_inj, csD, CV.d, rowC, ofD, argG, sub, List.zipIdx, List.range, List.range.loop]; done)
    | (refine res_iff ?_; simp_all [eqDs, eqD, str_inj, csD, CV.d, rowC, ofD, argG, sub, List.zipIdx, List.range, List.range.loop]; done)
    | skip
/-- spec.l16Same -/
theorem ok41 : FOk Try.prog T 41 (eqP [.i .i64, .i .i64, .i .i64, .s, .i .i64, .i .i64, .i .i64, .s, .l 60, .l 9, .l 114] 4) := by
  refine fok (env := envL []) (N := 31) tabT envL_nil mixed Try.func41 rfl Try.call41 Try.ntmps41 ?_
  rintro args ⟨a, b, wa, wb, rfl⟩ hwf
  refine ⟨by simp, ?_⟩
  clear hwf
  rw [Try.results41]
  repeat' first
    | (refine And.intro ?_ ?_)
    | (intro h; cases h)
    | (intro h; rw [h])
    | (intro h)
  all_goals first
    | (show lowEdges _ = true; kernel_rfl) | (show logOk _ _ = true; kernel_rfl) | exact True.intro | exact rfl | exact Or.inr rfl | exact Or.inl rfl
    | exact ⟨_, _, rfl⟩
    | exact ⟨sub a 0 1, sub b 0 1, wa.sub 0 1 (by decide), wb.sub 0 1 (by decide), rfl⟩
    | exact ⟨sub a 1 1, sub b 1 1, wa.sub 1 1 (by decide), wb.sub 1 1 (by decide), rfl⟩
    | exact ⟨sub a 2 1, sub b 2 1, wa.sub 2 1 (by decide), wb.sub 2 1 (by decide), rfl⟩
    | exact ⟨sub a 3 1, sub b 3 1, wa.sub 3 1 (by decide), wb.sub 3 1 (by decide), rfl⟩
    | exact ⟨sub a 4 7, sub b 4 7, wa.sub 4 7 (by decide), wb.sub 4 7 (by decide), rfl⟩
    | (refine res_no ?_; simp_all [eqDs, eqD, str_inj, csD, CV.d, rowC, ofD, argG, sub, List.zipIdx, List.range, List.range.loop]; done)
    | (refine res_no ?_; simp_all [eqDs, eqD, str_inj, csD, CV.d, rowC, ofD, argG, sub, List.zipIdx, List.range, List.range.loop]; done)
    | (refine res_yes ?_; simp_all [eqDs, eqD, str_inj, csD, CV.d, rowC, ofD, argG, sub, List.zipIdx, List.range, List.range.loop]; done)
    | (refine res_iff ?_; simp_all [eqDs, eqD, str_inj, csD, CV.d, rowC, ofD, argG, sub, List.zipIdx, List.range, List.range.loop]; done)
    | skip
/-- impl.FindRead -/
theorem ok22 : FOk Try.prog T 22 (spFind T 64 [.i .i64, .i .i64, .i .i64, .s, .i .i64, .i .i64, .i .i64, .s, .l 60, .l 9, .l 114] [.i .i64, .i .i64, .i .i64, .s, .l 60, .l 9, .l 114]) := by
  refine fok (env := envL [(44, (eqP [.i .i64, .i .i64, .i .i64, .s, .i .i64, .i .i64, .i .i64, .s, .l 60, .l 9, .l 114] 4)), (45, (cpG T [.i .i64, .i .i64, .i .i64, .s, .l 60, .l 9, .l 114]))]) (N := 22) tabT (envL_cons ok44 (envL_cons ok45 envL_nil)) mixed Try.func22 rfl Try.call22 Try.ntmps22 ?_
  rintro args ⟨l, q, hw, wq, rfl⟩ hwf
  have wl : WfD T (.l 64) (.l l) := arg0 hwf (List.mem_singleton_self _)
  clear hwf
  have ll : l.length ≤ maxLen := wl.len
  have eq : csD (rowC [.i .i64, .i .i64, .i .i64, .s, .i .i64, .i .i64, .i .i64, .s, .l 60, .l 9, .l 114] q) = q := csD_rowC wq
  refine ⟨by simp, ?_⟩
  rw [Try.results22]
  repeat' first
    | (refine And.intro ?_ ?_)
    | (intro h; simp only [reduceCtorEq] at h; done)
    | (intro h; rw [h])
    | (intro h)
  all_goals first
    | (show lowEdges _ = true; kernel_rfl) | (show logOk _ _ = true; kernel_rfl) | exact True.intro | exact Or.inr rfl | exact Or.inl rfl
    | skip
  refine awp_loop (Q := _) [3, 4, 8, 9, 10] [3, 4] (fun n s => ∃ i : Int, s = ([.ptr 3 1 0, .ptr 4 1 0, argS 64 l, .val false [.i .i64 l.length], .val false [.i .i64 i]], [(1, (rowC [.i .i64, .i .i64, .i .i64, .s, .i .i64, .i .i64, .i .i64, .s, .l 60, .l 9, .l 114] q).map fun c => .val false [c]), (1, [.val false [.i .i64 0], .val false [.i .i64 0], .val false [.i .i64 0], .val false [.s ByteArray.empty], .val false [.sl true 60 []], .val false [.sl true 9 []], .val false [.sl true 114 []]])]) ∧ 0 ≤ i ∧ i ≤ l.length ∧ n = l.length - i.toNat ∧ (l.take i.toNat).any (sameK q) = false) ?_ ?_
  · exact ⟨rfl, l.length - 0, 0, rfl, by omega, by omega, rfl, rfl⟩
  rintro n s ⟨i, rfl, h1, h2, h3, h4⟩
  repeat' first
    | (refine And.intro ?_ ?_)
    | (intro h; simp only [reduceCtorEq] at h; done)
    | (intro h; rw [h])
    | (intro h)
  all_goals first
    | (show lowEdges _ = true; kernel_rfl) | (show logOk _ _ = true; kernel_rfl) | exact True.intro | exact Or.inr rfl | exact Or.inl rfl
    | omega
    | exact of_decide_eq_true ‹_›
    | (have hi : i < (l.length : Int) := of_decide_eq_true ‹decide (i < (l.length : Int)) = true›
       have wr : WfRow T [.i .i64, .i .i64, .i .i64, .s, .i .i64, .i .i64, .i .i64, .s, .l 60, .l 9, .l 114] (l.getD i.toNat []) := wl.row rfl (by omega)
       have hwr := wRow_le (a := l) (k := i.toNat) (by omega)
       have er : csD (rowC [.i .i64, .i .i64, .i .i64, .s, .i .i64, .i .i64, .i .i64, .s, .l 60, .l 9, .l 114] (l.getD i.toNat [])) = l.getD i.toNat [] := csD_rowC wr
       first
         | exact ⟨_, _, wr, wq, rfl⟩
         | exact ⟨_, wr.sub 4 7 (by decide), Nat.le_trans (wSub_le (by rw [wr.1]; decide)) (by omega), rfl⟩
         | (refine ⟨l.length - (i + 1).toNat, by omega, i + 1, ?_, by omega, by omega, rfl, any_next h1 hi h4 ?_⟩
            · exact congrArg (fun z => (([.ptr 3 1 0, .ptr 4 1 0, argS 64 l, .val false [.i .i64 l.length], .val false [.i .i64 z]], [(1, (rowC [.i .i64, .i .i64, .i .i64, .s, .i .i64, .i .i64, .i .i64, .s, .l 60, .l 9, .l 114] q).map fun c => .val false [c]), (1, [.val false [.i .i64 0], .val false [.i .i64 0], .val false [.i .i64 0], .val false [.s ByteArray.empty], .val false [.sl true 60 []], .val false [.sl true 9 []], .val false [.sl true 114 []]])]) : Snap)) (wrap_next h1 hi ll)
            · rw [← er, ← eq]; exact h)
         | (have hf := find_at (p := sameK q) h1 hi h4 (by rw [← er, ← eq]; exact h)
            exact resF eq hf _ rfl))
    | exact rfl
    | exact resFN eq (find_no h1 h2 ‹decide (i < (l.length : Int)) = false› h4) _ rfl
    | skip
/-- spec.FindRead -/
theorem ok19 : FOk Try.prog T 19 (spFind T 64 [.i .i64, .i .i64, .i .i64, .s, .i .i64, .i .i64, .i .i64, .s, .l 60, .l 9, .l 114] [.i .i64, .i .i64, .i .i64, .s, .l 60, .l 9, .l 114]) := by
  refine fok (env := envL [(41, (eqP [.i .i64, .i .i64, .i .i64, .s, .i .i64, .i .i64, .i .i64, .s, .l 60, .l 9, .l 114] 4)), (42, (cpG T [.i .i64, .i .i64, .i .i64, .s, .l 60, .l 9, .l 114]))]) (N := 26) tabT (envL_cons ok41 (envL_cons ok42 envL_nil)) mixed Try.func19 rfl Try.call19 Try.ntmps19 ?_
  rintro args ⟨l, q, hw, wq, rfl⟩ hwf
  have wl : WfD T (.l 64) (.l l) := arg0 hwf (List.mem_singleton_self _)
  clear hwf
  have ll : l.length ≤ maxLen := wl.len
  have eq : csD (rowC [.i .i64, .i .i64, .i .i64, .s, .i .i64, .i .i64, .i .i64, .s, .l 60, .l 9, .l 114] q) = q := csD_rowC wq
  refine ⟨by simp, ?_⟩
  rw [Try.results19]
  repeat' first
    | (refine And.intro ?_ ?_)
    | (intro h; simp only [reduceCtorEq] at h; done)
    | (intro h; rw [h])
    | (intro h)
  all_goals first
    | (show lowEdges _ = true; kernel_rfl) | (show logOk _ _ = true; kernel_rfl) | exact True.intro | exact Or.inr rfl | exact Or.inl rfl
    | skip
  refine awp_loop (Q := _) [0, 3, 4, 6] [3, 4] (fun n s => ∃ i : Int, s = ([argS 64 l, .ptr 3 1 0, .ptr 4 1 0, .val false [.i .i64 i]], [(1, (rowC [.i .i64, .i .i64, .i .i64, .s, .i .i64, .i .i64, .i .i64, .s, .l 60, .l 9, .l 114] q).map fun c => .val false [c]), (1, [.val false [.i .i64 0], .val false [.i .i64 0], .val false [.i .i64 0], .val false [.s ByteArray.empty], .val false [.sl true 60 []], .val false [.sl true 9 []], .val false [.sl true 114 []]])]) ∧ 0 ≤ i ∧ i ≤ l.length ∧ n = l.length - i.toNat ∧ (l.take i.toNat).any (sameK q) = false) ?_ ?_
  · exact ⟨rfl, l.length - 0, 0, rfl, by omega, by omega, rfl, rfl⟩
  rintro n s ⟨i, rfl, h1, h2, h3, h4⟩
  repeat' first
    | (refine And.intro ?_ ?_)
    | (intro h; simp only [reduceCtorEq] at h; done)
    | (intro h; rw [h])
    | (intro h)
  all_goals first
    | (show lowEdges _ = true; kernel_rfl) | (show logOk _ _ = true; kernel_rfl) | exact True.intro | exact Or.inr rfl | exact Or.inl rfl
    | omega
    | exact of_decide_eq_true ‹_›
    | (have hi : i < (l.length : Int) := of_decide_eq_true ‹decide (i < (l.length : Int)) = true›
       have wr : WfRow T [.i .i64, .i .i64, .i .i64, .s, .i .i64, .i .i64, .i .i64, .s, .l 60, .l 9, .l 114] (l.getD i.toNat []) := wl.row rfl (by omega)
       have hwr := wRow_le (a := l) (k := i.toNat) (by omega)
       have er : csD (rowC [.i .i64, .i .i64, .i .i64, .s, .i .i64, .i .i64, .i .i64, .s, .l 60, .l 9, .l 114] (l.getD i.toNat [])) = l.getD i.toNat [] := csD_rowC wr
       first
         | exact ⟨_, _, wr, wq, rfl⟩
         | exact ⟨_, wr.sub 4 7 (by decide), Nat.le_trans (wSub_le (by rw [wr.1]; decide)) (by omega), rfl⟩
         | (refine ⟨l.length - (i + 1).toNat, by omega, i + 1, ?_, by omega, by omega, rfl, any_next h1 hi h4 ?_⟩
            · exact congrArg (fun z => (([argS 64 l, .ptr 3 1 0, .ptr 4 1 0, .val false [.i .i64 z]], [(1, (rowC [.i .i64, .i .i64, .i .i64, .s, .i .i64, .i .i64, .i .i64, .s, .l 60, .l 9, .l 114] q).map fun c => .val false [c]), (1, [.val false [.i .i64 0], .val false [.i .i64 0], .val false [.i .i64 0], .val false [.s ByteArray.empty], .val false [.sl true 60 []], .val false [.sl true 9 []], .val false [.sl true 114 []]])]) : Snap)) (wrap_next h1 hi ll)
            · rw [← er, ← eq]; exact h)
         | (have hf := find_at (p := sameK q) h1 hi h4 (by rw [← er, ← eq]; exact h)
            exact resF eq hf _ rfl))
    | exact rfl
    | exact resFN eq (find_no h1 h2 ‹decide (i < (l.length : Int)) = false› h4) _ rfl
    | skip
/-- impl.tapeIndex -/
theorem ok46 : FOk Try.prog T 46 (spAt 54) := by
  refine fok (env := envL []) (N := 28) tabT envL_nil mixed Try.func46 rfl Try.call46 Try.ntmps46 ?_
  rintro args ⟨l, c, v, rfl⟩ hwf
  have wl : WfD T (.l 54) (.l l) := arg0 hwf (List.mem_cons_self ..)
  clear hwf
  have ll : l.length ≤ maxLen := wl.len
  refine ⟨by simp, ?_⟩
  rw [Try.results46]
  repeat' first
    | (refine And.intro ?_ ?_)
    | (intro h; simp only [reduceCtorEq] at h; done)
    | (intro h; rw [h])
    | (intro h)
  all_goals first
    | (show lowEdges _ = true; kernel_rfl) | (show logOk _ _ = true; kernel_rfl) | exact True.intro | exact Or.inr rfl | exact Or.inl rfl
    | skip
  refine awp_loop (Q := _) [1, 2, 9, 10, 11] [] (fun n s => ∃ i : Int, s = ([.val false [.i .i64 c], .val false [.i .i64 v], argS 54 l, .val false [.i .i64 l.length], .val false [.i .i64 i]], []) ∧ 0 ≤ i ∧ i ≤ l.length ∧ n = l.length - i.toNat ∧ (l.take i.toNat).any (keyT c v) = false) ?_ ?_
  · exact ⟨rfl, l.length - 0, 0, rfl, by omega, by omega, rfl, rfl⟩
  rintro n s ⟨i, rfl, h1, h2, h3, h4⟩
  repeat' first
    | (refine And.intro ?_ ?_)
    | (intro h; simp only [reduceCtorEq] at h; done)
    | (intro h; rw [h])
    | (intro h)
  all_goals first
    | (show lowEdges _ = true; kernel_rfl) | (show logOk _ _ = true; kernel_rfl) | exact True.intro | exact Or.inr rfl | exact Or.inl rfl
    | omega
    | exact of_decide_eq_true ‹_›
    | (have hi : i < (l.length : Int) := of_decide_eq_true ‹decide (i < (l.length : Int)) = true›
       first
         | exact resI (at_found h1 hi h4 (key_yes (by assumption) (by assumption))).symm
         | (refine ⟨l.length - (i + 1).toNat, by omega, i + 1, ?_, by omega, by omega, rfl, any_next h1 hi h4 ?_⟩
            · exact congrArg (fun z => (([.val false [.i .i64 c], .val false [.i .i64 v], argS 54 l, .val false [.i .i64 l.length], .val false [.i .i64 z]], []) : Snap)) (wrap_next h1 hi ll)
            · first
                | exact key_no1 (by assumption)
                | exact key_no2 (by assumption)))
    | exact rfl
    | exact resI (at_none h1 h2 ‹decide (i < (l.length : Int)) = false› h4).symm
    | skip
/-- spec.l26At -/
theorem ok39 : FOk Try.prog T 39 (spAt 54) := by
  refine fok (env := envL []) (N := 31) tabT envL_nil mixed Try.func39 rfl Try.call39 Try.ntmps39 ?_
  rintro args ⟨l, c, v, rfl⟩ hwf
  have wl : WfD T (.l 54) (.l l) := arg0 hwf (List.mem_cons_self ..)
  clear hwf
  have ll : l.length ≤ maxLen := wl.len
  refine ⟨by simp, ?_⟩
  rw [Try.results39]
  repeat' first
    | (refine And.intro ?_ ?_)
    | (intro h; simp only [reduceCtorEq] at h; done)
    | (intro h; rw [h])
    | (intro h)
  all_goals first
    | (show lowEdges _ = true; kernel_rfl) | (show logOk _ _ = true; kernel_rfl) | exact True.intro | exact Or.inr rfl | exact Or.inl rfl
    | skip
  refine awp_loop (Q := _) [0, 1, 2, 7] [] (fun n s => ∃ i : Int, s = ([argS 54 l, .val false [.i .i64 c], .val false [.i .i64 v], .val false [.i .i64 i]], []) ∧ 0 ≤ i ∧ i ≤ l.length ∧ n = l.length - i.toNat ∧ (l.take i.toNat).any (keyT c v) = false) ?_ ?_
  · exact ⟨rfl, l.length - 0, 0, rfl, by omega, by omega, rfl, rfl⟩
  rintro n s ⟨i, rfl, h1, h2, h3, h4⟩
  repeat' first
    | (refine And.intro ?_ ?_)
    | (intro h; simp only [reduceCtorEq] at h; done)
    | (intro h; rw [h])
    | (intro h)
  all_goals first
    | (show lowEdges _ = true; kernel_rfl) | (show logOk _ _ = true; kernel_rfl) | exact True.intro | exact Or.inr rfl | exact Or.inl rfl
    | omega
    | exact of_decide_eq_true ‹_›
    | (have hi : i < (l.length : Int) := of_decide_eq_true ‹decide (i < (l.length : Int)) = true›
       first
         | exact resI (at_found h1 hi h4 (key_yes (by assumption) (by assumption))).symm
         | (refine ⟨l.length - (i + 1).toNat, by omega, i + 1, ?_, by omega, by omega, rfl, any_next h1 hi h4 ?_⟩
            · exact congrArg (fun z => (([argS 54 l, .val false [.i .i64 c], .val false [.i .i64 v], .val false [.i .i64 z]], []) : Snap)) (wrap_next h1 hi ll)
            · first
                | exact key_no1 (by assumption)
                | exact key_no2 (by assumption)))
    | exact rfl
    | exact resI (at_none h1 h2 ‹decide (i < (l.length : Int)) = false› h4).symm
    | skip
/-- impl.TapeOf -/
theorem ok23 : FOk Try.prog T 23 (spTape 54 64) := by
  refine fok (env := envL [(46, (spAt 54)), (24, (cpS 64))]) (N := 20) tabT (envL_cons ok46 (envL_cons ok24 envL_nil)) mixed Try.func23 rfl Try.call23 Try.ntmps23 ?_
  rintro args ⟨l, c, v, hw, rfl⟩ hwf
  have wl : WfD T (.l 54) (.l l) := arg0 hwf (List.mem_cons_self ..)
  clear hwf
  refine ⟨by simp, ?_⟩
  have ha := atI_in l c v
  rw [Try.results23]
  repeat' first
    | (refine And.intro ?_ ?_)
    | (intro h; simp only [reduceCtorEq] at h; done)
    | (intro h; rw [h])
    | (intro h)
  all_goals first
    | (show lowEdges _ = true; kernel_rfl) | (show logOk _ _ = true; kernel_rfl) | exact True.intro | exact Or.inr rfl | exact Or.inl rfl
    | exact ⟨_, _, _, rfl⟩
    | exact resSl (if_pos (of_decide_eq_true h)).symm
    | (have hn : ¬ atI l c v < 0 := of_decide_eq_false h
       have hwr := wRow_le (a := l) (k := (atI l c v).toNat) (by omega)
       first
         | omega
         | exact ⟨_, Nat.le_trans (wRows_cell (l.getD (atI l c v).toNat []) 2) (by omega), rfl⟩
         | exact resSl (if_neg hn).symm)
    | skip
/-- spec.TapeOf -/
theorem ok18 : FOk Try.prog T 18 (spTape 54 64) := by
  refine fok (env := envL [(39, (spAt 54)), (40, (cpS 64))]) (N := 21) tabT (envL_cons ok39 (envL_cons ok40 envL_nil)) mixed Try.func18 rfl Try.call18 Try.ntmps18 ?_
  rintro args ⟨l, c, v, hw, rfl⟩ hwf
  have wl : WfD T (.l 54) (.l l) := arg0 hwf (List.mem_cons_self ..)
  clear hwf
  refine ⟨by simp, ?_⟩
  have ha := atI_in l c v
  rw [Try.results18]
  repeat' first
    | (refine And.intro ?_ ?_)
    | (intro h; simp only [reduceCtorEq] at h; done)
    | (intro h; rw [h])
    | (intro h)
  all_goals first
    | (show lowEdges _ = true; kernel_rfl) | (show logOk _ _ = true; kernel_rfl) | exact True.intro | exact Or.inr rfl | exact Or.inl rfl
    | exact ⟨_, _, _, rfl⟩
    | exact resSl (if_pos (of_decide_eq_true h)).symm
    | (have hn : ¬ atI l c v < 0 := of_decide_eq_false h
       have hwr := wRow_le (a := l) (k := (atI l c v).toNat) (by omega)
       first
         | omega
         | exact ⟨_, Nat.le_trans (wRows_cell (l.getD (atI l c v).toNat []) 2) (by omega), rfl⟩
         | exact resSl (if_neg hn).symm)
    | skip
end Go.Proofs.Ytidjlboppokloaa.Ab
