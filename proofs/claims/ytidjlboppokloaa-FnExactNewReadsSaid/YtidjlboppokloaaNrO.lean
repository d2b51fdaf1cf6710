/- The program's FindRead and TapeOf, owned in depth: printed by a program of this claim. -/
import Derived.Test.YtidjlboppokloaaNdO
import Derived.Test.YtidjlboppokloaaCcO
import Derived.Test.YtidjlboppokloaaNrn
namespace Go.Proofs.Ytidjlboppokloaa.Ab
open Go.RowKit
set_option linter.unusedVariables false
set_option linter.unusedSimpArgs false
set_option maxRecDepth 100000
set_option maxHeartbeats 1000000
theorem po44 : FOk Try.prog Td 44 (eqP [.i .i64, .i .i64, .i .i64, .s, .i .i64, .i .i64, .i .i64, .s, .l 60, .l 9, .l 114] 4) := FOk.on true ok44 (fun args h => by obtain ⟨a, b, _, _, rfl⟩ := h; rfl) (fun hb => by cases hb)
/-- impl.FindRead -/
theorem po22 : FOk Try.prog Td 22 (spFindO T 64 [.i .i64, .i .i64, .i .i64, .s, .i .i64, .i .i64, .i .i64, .s, .l 60, .l 9, .l 114] [.i .i64, .i .i64, .i .i64, .s, .l 60, .l 9, .l 114]) := by
  refine fok (env := envL [(44, (eqP [.i .i64, .i .i64, .i .i64, .s, .i .i64, .i .i64, .i .i64, .s, .l 60, .l 9, .l 114] 4)), (45, (cpGO T [.i .i64, .i .i64, .i .i64, .s, .l 60, .l 9, .l 114]))]) (N := 22) tabTd (envD_cons po44 (envD_cons po45 envD_nil)) mixed Try.func22 rfl Try.call22 Try.ntmps22 ?_
  rintro args ⟨l, q, hw, wq, rfl⟩ hwf
  have wl : WfD T (.l 64) (.l l) := arg0O hwf (List.mem_singleton_self _)
  clear hwf
  have ll : l.length ≤ maxLen := wl.len
  have eq : csD (rowC [.i .i64, .i .i64, .i .i64, .s, .i .i64, .i .i64, .i .i64, .s, .l 60, .l 9, .l 114] q) = q := csD_rowC wq
  refine ⟨by simp, ?_⟩
  rw [Try.results22]
  repeat' first
    | (refine And.intro ?_ ?_)
    | (intro h; simp only [reduceCtorEq] at h; done)
    | (intro h; rw [h])
    | (intro h)
  all_goals first
    | (show lowEdges _ = true; kernel_rfl) | (show logOk _ _ = true; kernel_rfl) | exact True.intro | exact Or.inr rfl | exact Or.inl rfl
    | skip
  refine awp_loop (Q := _) [3, 4, 8, 9, 10] [3, 4] (fun n s => ∃ i : Int, s = ([.ptr 3 1 0, .ptr 4 1 0, argS 64 l, .val false [.i .i64 l.length], .val false [.i .i64 i]], [(1, (rowC [.i .i64, .i .i64, .i .i64, .s, .i .i64, .i .i64, .i .i64, .s, .l 60, .l 9, .l 114] q).map fun c => .val false [c]), (1, [.val false [.i .i64 0], .val false [.i .i64 0], .val false [.i .i64 0], .val false [.s ByteArray.empty], .val false [.sl true 60 []], .val false [.sl true 9 []], .val false [.sl true 114 []]])]) ∧ 0 ≤ i ∧ i ≤ l.length ∧ n = l.length - i.toNat ∧ (l.take i.toNat).any (sameK q) = false) ?_ ?_
  · exact ⟨rfl, l.length - 0, 0, rfl, by omega, by omega, rfl, rfl⟩
  rintro n s ⟨i, rfl, h1, h2, h3, h4⟩
  repeat' first
    | (refine And.intro ?_ ?_)
    | (intro h; simp only [reduceCtorEq] at h; done)
    | (intro h; rw [h])
    | (intro h)
  all_goals first
    | (show lowEdges _ = true; kernel_rfl) | (show logOk _ _ = true; kernel_rfl) | exact True.intro | exact Or.inr rfl | exact Or.inl rfl
    | omega
    | exact of_decide_eq_true ‹_›
    | (have hi : i < (l.length : Int) := of_decide_eq_true ‹decide (i < (l.length : Int)) = true›
       have wr : WfRow T [.i .i64, .i .i64, .i .i64, .s, .i .i64, .i .i64, .i .i64, .s, .l 60, .l 9, .l 114] (l.getD i.toNat []) := wl.row rfl (by omega)
       have hwr := wRow_le (a := l) (k := i.toNat) (by omega)
       have er : csD (rowC [.i .i64, .i .i64, .i .i64, .s, .i .i64, .i .i64, .i .i64, .s, .l 60, .l 9, .l 114] (l.getD i.toNat [])) = l.getD i.toNat [] := csD_rowC wr
       first
         | exact ⟨_, _, wr, wq, rfl⟩
         | exact ⟨_, wr.sub 4 7 (by decide), Nat.le_trans (wSub_le (by rw [wr.1]; decide)) (by omega), rfl⟩
         | (refine ⟨l.length - (i + 1).toNat, by omega, i + 1, ?_, by omega, by omega, rfl, any_next h1 hi h4 ?_⟩
            · exact congrArg (fun z => (([.ptr 3 1 0, .ptr 4 1 0, argS 64 l, .val false [.i .i64 l.length], .val false [.i .i64 z]], [(1, (rowC [.i .i64, .i .i64, .i .i64, .s, .i .i64, .i .i64, .i .i64, .s, .l 60, .l 9, .l 114] q).map fun c => .val false [c]), (1, [.val false [.i .i64 0], .val false [.i .i64 0], .val false [.i .i64 0], .val false [.s ByteArray.empty], .val false [.sl true 60 []], .val false [.sl true 9 []], .val false [.sl true 114 []]])]) : Snap)) (wrap_next h1 hi ll)
            · rw [← er, ← eq]; exact h)
         | (have hf := find_at (p := sameK q) h1 hi h4 (by rw [← er, ← eq]; exact h)
            exact resFO eq hf _ rfl))
    | exact rfl
    | exact resFNO eq (find_no h1 h2 ‹decide (i < (l.length : Int)) = false› h4) _ rfl
    | skip
theorem po46 : FOk Try.prog Td 46 (spAt 54) := FOk.on true ok46 (fun args h => by obtain ⟨l, c, v, rfl⟩ := h; rfl) (fun hb => by cases hb)
/-- impl.TapeOf -/
theorem po23 : FOk Try.prog Td 23 (spTape 54 64) := by
  refine fok (env := envL [(46, (spAt 54)), (24, (cpSO 64))]) (N := 20) tabTd (envD_cons po46 (envD_cons po24 envD_nil)) mixed Try.func23 rfl Try.call23 Try.ntmps23 ?_
  rintro args ⟨l, c, v, hw, rfl⟩ hwf
  have wl : WfD T (.l 54) (.l l) := arg0O hwf (List.mem_cons_self ..)
  clear hwf
  refine ⟨by simp, ?_⟩
  have ha := atI_in l c v
  rw [Try.results23]
  repeat' first
    | (refine And.intro ?_ ?_)
    | (intro h; simp only [reduceCtorEq] at h; done)
    | (intro h; rw [h])
    | (intro h)
  all_goals first
    | (show lowEdges _ = true; kernel_rfl) | (show logOk _ _ = true; kernel_rfl) | exact True.intro | exact Or.inr rfl | exact Or.inl rfl
    | exact ⟨_, _, _, rfl⟩
    | exact resSl (if_pos (of_decide_eq_true h)).symm
    | (have hn : ¬ atI l c v < 0 := of_decide_eq_false h
       have hwr := wRow_le (a := l) (k := (atI l c v).toNat) (by omega)
       first
         | omega
         | exact ⟨_, Nat.le_trans (wRows_cell (l.getD (atI l c v).toNat []) 2) (by omega), rfl⟩
         | exact resSl (if_neg hn).symm)
    | skip
end Go.Proofs.Ytidjlboppokloaa.Ab
