/- Gossip: the program, owned in depth: printed by a program of this claim. Merging logs: the reference, exactly: printed by a program of this claim. Gossip: the reference, exactly: printed by a program of this claim. -/
import Derived.Test.YtaecbmjmcpdgdaaGreatCGa
import Derived.Test.YtaecbmjmcpdgdaaGreatCGf
import Derived.Test.YtaecbmjmcpdgdaaGreatCGc
import Derived.Test.YtaecbmjmcpdgdaaGreatCCo
import Derived.Test.YtaecbmjmcpdgdaaGreatCCc
namespace Go.Proofs.YtaecbmjmcpdgdaaGreat.Ab
open Go.RowKit
set_option linter.unusedVariables false
set_option linter.unusedSimpArgs false
set_option maxRecDepth 100000
set_option maxHeartbeats 2000000
theorem po18 : FOk Tryz.prog Td 18 (spRep 54) := FOk.on true xk18 (fun args h => by obtain ⟨i, l, rfl⟩ := h; rfl) (fun hb => by cases hb)
theorem po19 : FOk Tryz.prog Td 19 (spMrg 54) := FOk.on true xk19 (fun args h => by obtain ⟨l, m, _, rfl⟩ := h; rfl) (fun hb => by cases hb)
theorem po20 : FOk Tryz.prog Td 20 (spBL okLog 54) := FOk.on true xk20 (fun args h => by obtain ⟨l, rfl⟩ := h; rfl) (fun hb => by cases hb)
theorem po7 : FOk Tryz.prog Td 7 (spGos true 36) := by
  refine fok (env := envL [(18, (spRep 54)), (19, (spMrg 54)), (20, (spBL okLog 54)), (21, (cpSO 54)), (22, (cpGO T [.i .i64, .l 54]))]) (N := 54) tabTd (envD_cons po18 (envD_cons po19 (envD_cons po20 (envD_cons po21 (envD_cons po22 envD_nil))))) mixed Tryz.func7 rfl Tryz.call7 Tryz.ntmps7 ?_
  rintro args ⟨l, hs, rfl⟩ hwf
  have hw : ∀ r ∈ l, WfRow T [.i .i64, .l 54] r := fun r hr => (show WfD T (.l 36) (.l l) from arg0O hwf (List.mem_cons_self ..)).mem (show T 36 = some _ from rfl) hr
  have hlm : l.length ≤ maxLen := by simp only [maxLen]; omega
  have ho0 := opsL_size l
  refine ⟨by simp, ?_⟩
  clear hwf
  rw [Tryz.results7]
  repeat' first
    | (refine And.intro ?_ ?_)
    | (intro h; simp only [reduceCtorEq] at h; done)
    | (intro h; rw [h])
    | (intro h)
  all_goals first
    | (show lowEdges _ = true; kernel_rfl) | (show logOk _ _ = true; kernel_rfl) | exact True.intro | exact Or.inr rfl | exact Or.inl rfl
    | skip
  refine awp_loop (Q := _) [0, 3, 4, 11, 12, 13] [] (fun n st => ∃ (i : Nat) (o : Bool), st = ([argS 36 l, .val false [.sl o 54 (opsL l i)], .val false [.b (vldL l i)], argS 36 l, .val false [.i .i64 l.length], .val false [.i .i64 (i : Int)]], []) ∧ i ≤ l.length ∧ n = l.length - i) ?_ ?_
  · exact ⟨rfl, l.length, 0, true, rfl, Nat.zero_le _, rfl⟩
  rintro n st ⟨i, o, rfl, hle, rfl⟩
  obtain ⟨v, hv⟩ : ∃ v, vldL l i = v := ⟨_, rfl⟩
  rw [hv]
  have hop := opsL_le hle hs
  cases o <;> cases v
  all_goals
    repeat' first
      | (refine And.intro ?_ ?_)
      | (intro h; simp only [reduceCtorEq] at h; done)
      | (intro h; rw [h])
      | (intro h)
  all_goals (try simp only [Nat.reduceAdd] at *)
  all_goals first
    | (show lowEdges _ = true; kernel_rfl) | (show logOk _ _ = true; kernel_rfl) | exact True.intro | exact Or.inr rfl | exact Or.inl rfl
    | exact Or.inr trivial
    | with_reducible exact Int.natCast_nonneg _
    | (show Alive _ _; exact rfl)
    | (have hi : i < l.length := ltN (by with_reducible assumption)
       have hwr := hw _ (rAt_memL hi)
       have hws := wRow_mem (rAt_memL hi)
       have hpre := opsL_pre hi hs
       first
         | (show (i : Int) < _; omega)
         | (show (Int.toNat (i : Int)) < _; rw [Int.toNat_natCast]; exact hi)
         | exact ⟨_, _, hpre, rfl⟩
         | exact ⟨_, _, rfl⟩
         | exact ⟨l.length - (i + 1), by omega, i + 1, false, ((congrArg (fun z : Int => (([argS 36 l, .val false [.sl false 54 _], .val false [.b _], argS 36 l, .val false [.i .i64 l.length], .val false [.i .i64 z]], []) : Snap)) (wrapN hi hlm)).trans ((congrArg (fun z : List (List D) => (([argS 36 l, .val false [.sl false 54 z], .val false [.b _], argS 36 l, .val false [.i .i64 l.length], .val false [.i .i64 _]], []) : Snap)) (opsL_next hi)).trans (congrArg (fun z : Bool => (([argS 36 l, .val false [.sl false 54 _], .val false [.b z], argS 36 l, .val false [.i .i64 l.length], .val false [.i .i64 _]], []) : Snap)) (by first | (rw [vldL_next hi, hv]; rfl) | (rw [vldL_next hi, hv, Bool.true_and]; rfl))))), by omega, rfl⟩)
    | skip
  all_goals (
    have hi : ¬ i < l.length := nltN (by with_reducible assumption)
    obtain rfl := at_all hi hle
    clear hi
    refine awp_loop (Q := _) [3, 4, 7, 28, 29, 30] [] (fun n st => ∃ (j : Nat) (o : Bool), st = ([.val false [.sl o 54 (opsL l l.length)], .val false [.b (vldL l l.length)], .val false [.sl true 36 (gosA l j)], argS 36 l, .val false [.i .i64 l.length], .val false [.i .i64 (j : Int)]], []) ∧ j ≤ l.length ∧ n = l.length - j) ?_ ?_
    · rw [hv]
      first | exact ⟨rfl, l.length, 0, false, congrArg (fun q : List (List D) => (([.val false [.sl false 54 (opsL l l.length)], .val false [.b _], .val false [.sl true 36 q], argS 36 l, .val false [.i .i64 l.length], .val false [.i .i64 0]], []) : Snap)) (gosA_zero l), Nat.zero_le _, rfl⟩ | exact ⟨rfl, l.length, 0, true, congrArg (fun q : List (List D) => (([.val false [.sl true 54 (opsL l l.length)], .val false [.b _], .val false [.sl true 36 q], argS 36 l, .val false [.i .i64 l.length], .val false [.i .i64 0]], []) : Snap)) (gosA_zero l), Nat.zero_le _, rfl⟩
    rintro n2 st2 ⟨j, o, rfl, hj, rfl⟩
    rw [hv]
    cases o
    repeat' first
      | (refine And.intro ?_ ?_)
      | (intro h; simp only [reduceCtorEq] at h; done)
      | (intro h; rw [h])
      | (intro h)
    all_goals (try simp only [Nat.reduceAdd] at *)
    all_goals first
      | (show lowEdges _ = true; kernel_rfl) | (show logOk _ _ = true; kernel_rfl) | exact True.intro | exact Or.inr rfl | exact Or.inl rfl
      | exact Or.inr trivial
      | with_reducible exact Int.natCast_nonneg _
      | exact absurd (show (!false) = false by with_reducible assumption) (by decide)
      | exact absurd (show (!true) = true by with_reducible assumption) (by decide)
      | (show Alive _ _; exact rfl)
      | (have hjl : j < l.length := ltN (by with_reducible assumption)
         have hwr := hw _ (rAt_memL hjl)
         have hws := wRow_mem (rAt_memL hjl)
         have hgl := gosA_len l j
         first
           | (show (j : Int) < _; omega)
           | (show (Int.toNat (j : Int)) < _; rw [Int.toNat_natCast]; exact hjl)
           | exact ⟨_, rfl⟩
           | exact ⟨_, hop, rfl⟩
           | exact ⟨_, hwr, by omega, rfl⟩
           | (simp only [List.length_append, List.length_take, List.length_cons, List.length_nil, maxLen]; omega)
           | exact ⟨l.length - (j + 1), by omega, j + 1, false, ((congrArg (fun z : Int => (([.val false [.sl false 54 (opsL l l.length)], .val false [.b _], .val false [.sl true 36 _], argS 36 l, .val false [.i .i64 l.length], .val false [.i .i64 z]], []) : Snap)) (wrapN hjl hlm)).trans (congrArg (fun z : List (List D) => (([.val false [.sl false 54 (opsL l l.length)], .val false [.b _], .val false [.sl true 36 z], argS 36 l, .val false [.i .i64 l.length], .val false [.i .i64 _]], []) : Snap)) (gosA_t hjl hv (by with_reducible assumption)))), by omega, rfl⟩
           | exact ⟨l.length - (j + 1), by omega, j + 1, false, ((congrArg (fun z : Int => (([.val false [.sl false 54 (opsL l l.length)], .val false [.b _], .val false [.sl true 36 _], argS 36 l, .val false [.i .i64 l.length], .val false [.i .i64 z]], []) : Snap)) (wrapN hjl hlm)).trans (congrArg (fun z : List (List D) => (([.val false [.sl false 54 (opsL l l.length)], .val false [.b _], .val false [.sl true 36 z], argS 36 l, .val false [.i .i64 l.length], .val false [.i .i64 _]], []) : Snap)) (show gosA l j ++ ([] ++ [csD (rowC [.i .i64, .l 54] (rAt l j))]) = gosA l (j + 1) from by rw [csD_rowC hwr, List.nil_append]; exact gosA_f hjl (by rw [hv]; rfl)))), by omega, rfl⟩
           | exact ⟨l.length - (j + 1), by omega, j + 1, false, ((congrArg (fun z : Int => (([.val false [.sl false 54 (opsL l l.length)], .val false [.b _], .val false [.sl true 36 _], argS 36 l, .val false [.i .i64 l.length], .val false [.i .i64 z]], []) : Snap)) (wrapN hjl hlm)).trans (congrArg (fun z : List (List D) => (([.val false [.sl false 54 (opsL l l.length)], .val false [.b _], .val false [.sl true 36 z], argS 36 l, .val false [.i .i64 l.length], .val false [.i .i64 _]], []) : Snap)) (show gosA l j ++ ([] ++ [csD (rowC [.i .i64, .l 54] (rAt l j))]) = gosA l (j + 1) from by rw [csD_rowC hwr, List.nil_append]; exact gosA_f hjl (by have ho : okLog (opsL l l.length) = false := (by with_reducible assumption); rw [ho, Bool.and_false])))), by omega, rfl⟩
           | exact ⟨l.length - (j + 1), by omega, j + 1, true, ((congrArg (fun z : Int => (([.val false [.sl true 54 (opsL l l.length)], .val false [.b _], .val false [.sl true 36 _], argS 36 l, .val false [.i .i64 l.length], .val false [.i .i64 z]], []) : Snap)) (wrapN hjl hlm)).trans (congrArg (fun z : List (List D) => (([.val false [.sl true 54 (opsL l l.length)], .val false [.b _], .val false [.sl true 36 z], argS 36 l, .val false [.i .i64 l.length], .val false [.i .i64 _]], []) : Snap)) (gosA_t hjl hv (by with_reducible assumption)))), by omega, rfl⟩
           | exact ⟨l.length - (j + 1), by omega, j + 1, true, ((congrArg (fun z : Int => (([.val false [.sl true 54 (opsL l l.length)], .val false [.b _], .val false [.sl true 36 _], argS 36 l, .val false [.i .i64 l.length], .val false [.i .i64 z]], []) : Snap)) (wrapN hjl hlm)).trans (congrArg (fun z : List (List D) => (([.val false [.sl true 54 (opsL l l.length)], .val false [.b _], .val false [.sl true 36 z], argS 36 l, .val false [.i .i64 l.length], .val false [.i .i64 _]], []) : Snap)) (show gosA l j ++ ([] ++ [csD (rowC [.i .i64, .l 54] (rAt l j))]) = gosA l (j + 1) from by rw [csD_rowC hwr, List.nil_append]; exact gosA_f hjl (by rw [hv]; rfl)))), by omega, rfl⟩
           | exact ⟨l.length - (j + 1), by omega, j + 1, true, ((congrArg (fun z : Int => (([.val false [.sl true 54 (opsL l l.length)], .val false [.b _], .val false [.sl true 36 _], argS 36 l, .val false [.i .i64 l.length], .val false [.i .i64 z]], []) : Snap)) (wrapN hjl hlm)).trans (congrArg (fun z : List (List D) => (([.val false [.sl true 54 (opsL l l.length)], .val false [.b _], .val false [.sl true 36 z], argS 36 l, .val false [.i .i64 l.length], .val false [.i .i64 _]], []) : Snap)) (show gosA l j ++ ([] ++ [csD (rowC [.i .i64, .l 54] (rAt l j))]) = gosA l (j + 1) from by rw [csD_rowC hwr, List.nil_append]; exact gosA_f hjl (by have ho : okLog (opsL l l.length) = false := (by with_reducible assumption); rw [ho, Bool.and_false])))), by omega, rfl⟩)
      | (have hjl : ¬ j < l.length := nltN (by with_reducible assumption)
         rw [gosA_end hjl hj])
      | skip)
end Go.Proofs.YtaecbmjmcpdgdaaGreat.Ab
namespace Go.Proofs.YtaecbmjmcpdgdaaGreat.Ab
open Go.RowKit
set_option linter.unusedVariables false
set_option linter.unusedSimpArgs false
set_option maxRecDepth 100000
set_option maxHeartbeats 2000000
theorem plcRowW (l : List (List D)) (r : List D) : plc l (csD [CV.i .i64 (r.getD 0 default).int, CV.i .i64 (r.getD 1 default).int, CV.i .i64 (r.getD 2 default).int, CV.sl false 3 (r.getD 3 default).rows, CV.i .i64 (r.getD 4 default).int, CV.i .i64 (r.getD 5 default).int, CV.i .i64 (r.getD 6 default).int, CV.i .i64 (r.getD 7 default).int, CV.i .i64 (r.getD 8 default).int, CV.s (r.getD 9 default).str, CV.s (r.getD 10 default).str, CV.i .i64 (r.getD 11 default).int, CV.s (r.getD 12 default).str, CV.s (r.getD 13 default).str, CV.i .i64 (r.getD 14 default).int, CV.i .i64 (r.getD 15 default).int, CV.sl false 94 (r.getD 16 default).rows]) = plc l r := rfl
theorem ltRowW2 (a b : List D) : opLt (csD [CV.i .i64 (a.getD 0 default).int, CV.i .i64 (a.getD 1 default).int, CV.i .i64 (a.getD 2 default).int, CV.sl false 3 (a.getD 3 default).rows, CV.i .i64 (a.getD 4 default).int, CV.i .i64 (a.getD 5 default).int, CV.i .i64 (a.getD 6 default).int, CV.i .i64 (a.getD 7 default).int, CV.i .i64 (a.getD 8 default).int, CV.s (a.getD 9 default).str, CV.s (a.getD 10 default).str, CV.i .i64 (a.getD 11 default).int, CV.s (a.getD 12 default).str, CV.s (a.getD 13 default).str, CV.i .i64 (a.getD 14 default).int, CV.i .i64 (a.getD 15 default).int, CV.sl false 94 (a.getD 16 default).rows]) (csD [CV.i .i64 (b.getD 0 default).int, CV.i .i64 (b.getD 1 default).int, CV.i .i64 (b.getD 2 default).int, CV.sl false 3 (b.getD 3 default).rows, CV.i .i64 (b.getD 4 default).int, CV.i .i64 (b.getD 5 default).int, CV.i .i64 (b.getD 6 default).int, CV.i .i64 (b.getD 7 default).int, CV.i .i64 (b.getD 8 default).int, CV.s (b.getD 9 default).str, CV.s (b.getD 10 default).str, CV.i .i64 (b.getD 11 default).int, CV.s (b.getD 12 default).str, CV.s (b.getD 13 default).str, CV.i .i64 (b.getD 14 default).int, CV.i .i64 (b.getD 15 default).int, CV.sl false 94 (b.getD 16 default).rows]) = opLt a b := rfl
theorem rowBackD {r : List D} (h : WfRow T [.i .i64, .i .i64, .i .i64, .l 3, .i .i64, .i .i64, .i .i64, .i .i64, .i .i64, .s, .s, .i .i64, .s, .s, .i .i64, .i .i64, .l 94] r) : [D.i (r.getD 0 default).int, D.i (r.getD 1 default).int, D.i (r.getD 2 default).int, D.l (r.getD 3 default).rows, D.i (r.getD 4 default).int, D.i (r.getD 5 default).int, D.i (r.getD 6 default).int, D.i (r.getD 7 default).int, D.i (r.getD 8 default).int, D.s (r.getD 9 default).str, D.s (r.getD 10 default).str, D.i (r.getD 11 default).int, D.s (r.getD 12 default).str, D.s (r.getD 13 default).str, D.i (r.getD 14 default).int, D.i (r.getD 15 default).int, D.l (r.getD 16 default).rows] = r := csD_rowC h
theorem xk13 : FOk Tryz.prog T 13 (spMrg 54) := by
  refine fok (env := envL [(27, (spPlc 54 [.i .i64, .i .i64, .i .i64, .l 3, .i .i64, .i .i64, .i .i64, .i .i64, .i .i64, .s, .s, .i .i64, .s, .s, .i .i64, .i .i64, .l 94])), (28, (spB2 opLt [.i .i64, .i .i64, .i .i64, .l 3, .i .i64, .i .i64, .i .i64, .i .i64, .i .i64, .s, .s, .i .i64, .s, .s, .i .i64, .i .i64, .l 94])), (29, (cpG T [.i .i64, .i .i64, .i .i64, .l 3, .i .i64, .i .i64, .i .i64, .i .i64, .i .i64, .s, .s, .i .i64, .s, .s, .i .i64, .i .i64, .l 94]))]) (N := 65) tabT (envL_cons xk27 (envL_cons xk28 (envL_cons ok29 envL_nil))) mixed Tryz.func13 rfl Tryz.call13 Tryz.ntmps13 ?_
  rintro args ⟨l, m, hs, rfl⟩ hwf
  have hL : ∃ L, L = l ++ m := ⟨_, rfl⟩
  obtain ⟨L, hL⟩ := hL
  have hw : ∀ r ∈ L, WfRow T [.i .i64, .i .i64, .i .i64, .l 3, .i .i64, .i .i64, .i .i64, .i .i64, .i .i64, .s, .s, .i .i64, .s, .s, .i .i64, .i .i64, .l 94] r := by
    rw [hL]
    exact app_wf (show T 54 = some _ from rfl) (show WfD T (.l 54) (.l l) from hwf _ (List.mem_cons_self ..) _ (List.mem_singleton_self _)) (show WfD T (.l 54) (.l m) from hwf _ (List.mem_cons_of_mem _ (List.mem_singleton_self _)) _ (List.mem_singleton_self _))
  have hLn : L.length + wRows L ≤ 1048576 := by rw [hL, List.length_append, wRows_append]; omega
  have hL0 : [] ++ l ++ m = L := by rw [List.nil_append]; exact hL.symm
  have hlm : L.length ≤ maxLen := by simp only [maxLen]; omega
  have hla : l.length ≤ 1048576 := by omega
  have hma : l.length + m.length ≤ 1048576 := by omega
  refine ⟨by simp, ?_⟩
  clear hwf
  rw [Tryz.results13]
  repeat' first
    | (refine And.intro ?_ ?_)
    | (intro h; simp only [reduceCtorEq] at h; done)
    | (intro h; rw [h])
    | (intro h)
  all_goals first
    | (show lowEdges _ = true; kernel_rfl) | (show logOk _ _ = true; kernel_rfl) | exact True.intro | exact Or.inr rfl | exact Or.inl rfl
    | exact ⟨_, _, rfl⟩
    | (simp only [List.length_append, List.length_take, List.length_drop, List.length_cons, List.length_nil, maxLen]; omega)
    | (simp only [List.length_append, List.length_take, List.length_drop, List.length_cons, List.length_nil]; omega)
    | skip
  rw [hL0]
  refine awp_loop (Q := _) [5, 6, 7] [] (fun n st => ∃ (i : Nat) (o : Bool), st = ([.val false [.sl o 54 (mS L i)], .val false [.sl true 54 L], .val false [.i .i64 (i : Int)]], []) ∧ i ≤ L.length ∧ n = L.length - i) ?_ ?_
  · exact ⟨rfl, L.length, 0, true, rfl, Nat.zero_le _, rfl⟩
  rintro n st ⟨i, o, rfl, hle, rfl⟩
  cases o
  repeat' first
    | (refine And.intro ?_ ?_)
    | (intro h; simp only [reduceCtorEq] at h; done)
    | (intro h; rw [h])
    | (intro h)
  all_goals (try simp only [Nat.reduceAdd, plcRowW, ltRowW2] at *)
  all_goals first
    | (show lowEdges _ = true; kernel_rfl) | (show logOk _ _ = true; kernel_rfl) | exact True.intro | exact Or.inr rfl | exact Or.inl rfl
    | exact Or.inr trivial
    | with_reducible exact Int.natCast_nonneg _
    | (have hi : i < L.length := ltN (by with_reducible assumption)
       first
         | (show (i : Int) < _; omega)
         | (show (Int.toNat (i : Int)) < _; rw [Int.toNat_natCast]; exact hi)
         | exact ⟨_, _, rfl⟩
         | (refine ⟨L.length - (i + 1), by omega, i + 1, false, ?_, by omega, rfl⟩; exact (congrArg (fun z : Int => (([.val false [.sl false 54 (mS L i)], .val false [.sl true 54 L], .val false [.i .i64 z]], []) : Snap)) (wrapN hi hlm)).trans (congrArg (fun q : List (List D) => (([.val false [.sl false 54 q], .val false [.sl true 54 L], .val false [.i .i64 ((i + 1 : Nat) : Int)]], []) : Snap)) (mS_skip hi (by assumption))))
         | (refine ⟨L.length - (i + 1), by omega, i + 1, true, ?_, by omega, rfl⟩; exact (congrArg (fun z : Int => (([.val false [.sl true 54 (mS L i)], .val false [.sl true 54 L], .val false [.i .i64 z]], []) : Snap)) (wrapN hi hlm)).trans (congrArg (fun q : List (List D) => (([.val false [.sl true 54 q], .val false [.sl true 54 L], .val false [.i .i64 ((i + 1 : Nat) : Int)]], []) : Snap)) (mS_skip hi (by assumption)))))
    | (have hi : ¬ i < L.length := nltN (by with_reducible assumption)
       rw [mS_all hi, hL])
    | (show Alive _ _; exact rfl)
    | skip
  all_goals (
    have hi : i < L.length := ltN (by with_reducible assumption)
    have hml : (mS L i).length ≤ i := mS_len (Nat.le_of_lt hi)
    have hms : (mS L i).length ≤ maxLen := by simp only [maxLen]; omega
    have hal := atOf_le (mS L i) (rAt L i)
    have hwr := hw _ (rAt_memL hi)
    have hws := wRow_mem (rAt_memL hi)
    refine awp_loop (Q := _) [5, 6, 7, 8] [] (fun n st => ∃ (j : Nat) (o : Bool), st = ([.val false [.sl o 54 (mS L i)], .val false [.sl true 54 L], .val false [.i .i64 (i : Int)], .val false [.i .i64 (j : Int)]], []) ∧ j ≤ atOf (mS L i) (rAt L i) ∧ n = (mS L i).length - j) ?_ ?_
    · first | exact ⟨rfl, (mS L i).length, 0, false, rfl, Nat.zero_le _, rfl⟩ | exact ⟨rfl, (mS L i).length, 0, true, rfl, Nat.zero_le _, rfl⟩
    rintro n2 st2 ⟨j, o, rfl, hj, rfl⟩
    cases o
    repeat' first
      | (refine And.intro ?_ ?_)
      | (intro h; simp only [reduceCtorEq] at h; done)
      | (intro h; rw [h])
      | (intro h)
    all_goals (try simp only [Nat.reduceAdd, plcRowW, ltRowW2] at *)
    all_goals (try simp only [rowBackD hwr])
    all_goals first
      | (show lowEdges _ = true; kernel_rfl) | (show logOk _ _ = true; kernel_rfl) | exact True.intro | exact Or.inr rfl | exact Or.inl rfl
      | exact Or.inr trivial
      | with_reducible exact Int.natCast_nonneg _
      | with_reducible exact of_decide_eq_true (by with_reducible assumption)
      | (show (i : Int) < _; omega)
      | (show (Int.toNat (i : Int)) < _; rw [Int.toNat_natCast]; exact hi)
      | (show (Int.toNat (j : Int)) < _; rw [Int.toNat_natCast]; exact ltN (by with_reducible assumption))
      | exact ⟨_, _, rfl⟩
      | exact ⟨_, hwr, by omega, rfl⟩
      | omega
      | (simp only [List.length_append, List.length_take, List.length_drop, List.length_cons, List.length_nil, Int.toNat_natCast, maxLen]; omega)
      | (show Alive _ _; exact rfl)
      | (have hjl := ltN (by with_reducible assumption)
         have hj1 := at_lt hj (by with_reducible assumption) (by with_reducible assumption)
         first
           | exact ⟨(mS L i).length - (j + 1), by omega, j + 1, false, congrArg (fun z : Int => (([.val false [.sl false 54 (mS L i)], .val false [.sl true 54 L], .val false [.i .i64 (i : Int)], .val false [.i .i64 z]], []) : Snap)) (wrapN hjl hms), hj1, rfl⟩
           | exact ⟨(mS L i).length - (j + 1), by omega, j + 1, true, congrArg (fun z : Int => (([.val false [.sl true 54 (mS L i)], .val false [.sl true 54 L], .val false [.i .i64 (i : Int)], .val false [.i .i64 z]], []) : Snap)) (wrapN hjl hms), hj1, rfl⟩)
      | (have hjE := at_end1 hj (by with_reducible assumption)
         (refine ⟨L.length - (i + 1), by omega, i + 1, true, ?_, by omega, rfl⟩; exact (congrArg (fun z : Int => (([.val false [.sl true 54 ([] ++ List.drop 0 (List.take j (mS L i)) ++ [rAt L i] ++ List.drop j (List.take (mS L i).length (mS L i)))], .val false [.sl true 54 L], .val false [.i .i64 z]], []) : Snap)) (wrapN hi hlm)).trans (congrArg (fun q : List (List D) => (([.val false [.sl true 54 q], .val false [.sl true 54 L], .val false [.i .i64 ((i + 1 : Nat) : Int)]], []) : Snap)) (show ([] ++ List.drop 0 (List.take j (mS L i)) ++ [rAt L i] ++ List.drop j (List.take (mS L i).length (mS L i))) = mS L (i + 1) from by rw [List.take_length, List.drop_zero]; exact mS_put hi (by assumption) hjE))))
      | (have hjE := at_end2 hj (by with_reducible assumption) (by with_reducible assumption)
         (refine ⟨L.length - (i + 1), by omega, i + 1, true, ?_, by omega, rfl⟩; exact (congrArg (fun z : Int => (([.val false [.sl true 54 ([] ++ List.drop 0 (List.take j (mS L i)) ++ [rAt L i] ++ List.drop j (List.take (mS L i).length (mS L i)))], .val false [.sl true 54 L], .val false [.i .i64 z]], []) : Snap)) (wrapN hi hlm)).trans (congrArg (fun q : List (List D) => (([.val false [.sl true 54 q], .val false [.sl true 54 L], .val false [.i .i64 ((i + 1 : Nat) : Int)]], []) : Snap)) (show ([] ++ List.drop 0 (List.take j (mS L i)) ++ [rAt L i] ++ List.drop j (List.take (mS L i).length (mS L i))) = mS L (i + 1) from by rw [List.take_length, List.drop_zero]; exact mS_put hi (by assumption) hjE))))
      | skip)
end Go.Proofs.YtaecbmjmcpdgdaaGreat.Ab
namespace Go.Proofs.YtaecbmjmcpdgdaaGreat.Ab
open Go.RowKit
set_option linter.unusedVariables false
set_option linter.unusedSimpArgs false
set_option maxRecDepth 100000
set_option maxHeartbeats 2000000
theorem xk5 : FOk Tryz.prog T 5 (spGos false 36) := by
  refine fok (env := envL [(12, (cpG T [.i .i64, .l 54])), (13, (spMrg 54)), (14, (spRep 54)), (15, (cpS 54)), (16, (spBL okLog 54))]) (N := 67) tabT (envL_cons ok12 (envL_cons xk13 (envL_cons xk14 (envL_cons ok15 (envL_cons xk16 envL_nil))))) mixed Tryz.func5 rfl Tryz.call5 Tryz.ntmps5 ?_
  rintro args ⟨l, hs, rfl⟩ hwf
  have hw : ∀ r ∈ l, WfRow T [.i .i64, .l 54] r := fun r hr => (show WfD T (.l 36) (.l l) from arg0 hwf (List.mem_cons_self ..)).mem (show T 36 = some _ from rfl) hr
  have hlm : l.length ≤ maxLen := by simp only [maxLen]; omega
  have ho0 := opsL_size l
  refine ⟨by simp, ?_⟩
  clear hwf
  rw [Tryz.results5]
  repeat' first
    | (refine And.intro ?_ ?_)
    | (intro h; simp only [reduceCtorEq] at h; done)
    | (intro h; rw [h])
    | (intro h)
  all_goals first
    | (show lowEdges _ = true; kernel_rfl) | (show logOk _ _ = true; kernel_rfl) | exact True.intro | exact Or.inr rfl | exact Or.inl rfl
    | skip
  refine awp_loop (Q := _) [0, 3, 4, 5, 6, 7] [] (fun n st => ∃ (i : Nat) (o : Bool), st = ([argS 36 l, .val false [.sl true 36 (l.take i)], .val false [.sl true 36 []], .val false [.sl o 54 (opsL l i)], .val false [.b (vldL l i)], .val false [.i .i64 ((i : Nat) : Int)]], []) ∧ i ≤ l.length ∧ n = l.length - i) ?_ ?_
  · exact ⟨rfl, l.length, 0, true, rfl, Nat.zero_le _, rfl⟩
  rintro n st ⟨i, o, rfl, hle, rfl⟩
  obtain ⟨v, hv⟩ : ∃ v, vldL l i = v := ⟨_, rfl⟩
  rw [hv]
  have hop := opsL_le hle hs
  cases o <;> cases v
  all_goals
    repeat' first
      | (refine And.intro ?_ ?_)
      | (intro h; simp only [reduceCtorEq] at h; done)
      | (intro h; rw [h])
      | (intro h)
  all_goals (try simp only [Nat.reduceAdd] at *)
  all_goals first
    | (show lowEdges _ = true; kernel_rfl) | (show logOk _ _ = true; kernel_rfl) | exact True.intro | exact Or.inr rfl | exact Or.inl rfl
    | exact Or.inr trivial
    | with_reducible exact Int.natCast_nonneg _
    | (have hi : i < l.length := ltN (by with_reducible assumption)
       have hwr := hw _ (rAt_memL hi)
       have hws := wRow_mem (rAt_memL hi)
       have hpre := opsL_pre hi hs
       first
         | (show (i : Int) < _; omega)
         | (show (Int.toNat (i : Int)) < _; rw [Int.toNat_natCast]; exact hi)
         | exact ⟨_, hwr, by omega, rfl⟩
         | exact ⟨_, _, hpre, rfl⟩
         | exact ⟨_, _, rfl⟩
         | (simp only [List.length_append, List.length_take, List.length_cons, List.length_nil, maxLen]; omega)
         | (refine ⟨l.length - (i + 1), by omega, i + 1, false, ?_, by omega, rfl⟩
            exact ((congrArg (fun z : Int => (([argS 36 l, .val false [.sl true 36 _], .val false [.sl true 36 []], .val false [.sl false 54 _], .val false [.b _], .val false [.i .i64 z]], []) : Snap)) (wrapN hi hlm)).trans ((congrArg (fun z : List (List D) => (([argS 36 l, .val false [.sl true 36 z], .val false [.sl true 36 []], .val false [.sl false 54 _], .val false [.b _], .val false [.i .i64 _]], []) : Snap)) (show l.take i ++ ([] ++ [csD (rowC [.i .i64, .l 54] (rAt l i))]) = l.take (i + 1) from by rw [csD_rowC hwr, List.nil_append]; exact take_next hi)).trans ((congrArg (fun z : List (List D) => (([argS 36 l, .val false [.sl true 36 _], .val false [.sl true 36 []], .val false [.sl false 54 z], .val false [.b _], .val false [.i .i64 _]], []) : Snap)) (opsL_next hi)).trans (congrArg (fun z : Bool => (([argS 36 l, .val false [.sl true 36 _], .val false [.sl true 36 []], .val false [.sl false 54 _], .val false [.b z], .val false [.i .i64 _]], []) : Snap)) (by first | (rw [vldL_next hi, hv]; rfl) | (rw [vldL_next hi, hv, Bool.true_and]; rfl))))))))
    | (show Alive _ _; exact rfl)
    | skip
  all_goals (
    have hi : ¬ i < l.length := nltN (by with_reducible assumption)
    obtain rfl := at_all hi hle
    clear hi
    refine awp_loop (Q := _) [0, 3, 4, 5, 6, 8] [] (fun n st => ∃ (j : Nat) (o : Bool), st = ([argS 36 l, .val false [.sl true 36 (l.take l.length)], .val false [.sl true 36 (gosO (l.take j) (opsL l l.length))], .val false [.sl o 54 (opsL l l.length)], .val false [.b (vldL l l.length)], .val false [.i .i64 (j : Int)]], []) ∧ j ≤ l.length ∧ n = l.length - j) ?_ ?_
    · rw [hv]
      first | exact ⟨rfl, l.length, 0, false, rfl, Nat.zero_le _, rfl⟩ | exact ⟨rfl, l.length, 0, true, rfl, Nat.zero_le _, rfl⟩
    rintro n2 st2 ⟨j, o, rfl, hj, rfl⟩
    rw [hv]
    cases o
    repeat' first
      | (refine And.intro ?_ ?_)
      | (intro h; simp only [reduceCtorEq] at h; done)
      | (intro h; rw [h])
      | (intro h)
    all_goals (try simp only [Nat.reduceAdd] at *)
    all_goals first
      | (show lowEdges _ = true; kernel_rfl) | (show logOk _ _ = true; kernel_rfl) | exact True.intro | exact Or.inr rfl | exact Or.inl rfl
      | exact Or.inr trivial
      | with_reducible exact Int.natCast_nonneg _
      | (have hjl : j < l.length := ltN (by with_reducible assumption)
         first
           | (show (j : Int) < _; omega)
           | (show (Int.toNat (j : Int)) < _; rw [Int.toNat_natCast]; exact hjl)
           | exact ⟨_, hop, rfl⟩
           | (simp only [List.length_append, gosO_len, List.length_take, List.length_cons, List.length_nil, maxLen]; omega)
           | (show Alive _ _; exact rfl)
           | exact ⟨l.length - (j + 1), by omega, j + 1, false, ((congrArg (fun z : Int => (([argS 36 l, .val false [.sl true 36 (l.take l.length)], .val false [.sl true 36 _], .val false [.sl false 54 (opsL l l.length)], .val false [.b _], .val false [.i .i64 z]], []) : Snap)) (wrapN hjl hlm)).trans (congrArg (fun z : List (List D) => (([argS 36 l, .val false [.sl true 36 (l.take l.length)], .val false [.sl true 36 z], .val false [.sl false 54 (opsL l l.length)], .val false [.b _], .val false [.i .i64 _]], []) : Snap)) (gosO_next hjl))), by omega, rfl⟩
           | exact ⟨l.length - (j + 1), by omega, j + 1, true, ((congrArg (fun z : Int => (([argS 36 l, .val false [.sl true 36 (l.take l.length)], .val false [.sl true 36 _], .val false [.sl true 54 (opsL l l.length)], .val false [.b _], .val false [.i .i64 z]], []) : Snap)) (wrapN hjl hlm)).trans (congrArg (fun z : List (List D) => (([argS 36 l, .val false [.sl true 36 (l.take l.length)], .val false [.sl true 36 z], .val false [.sl true 54 (opsL l l.length)], .val false [.b _], .val false [.i .i64 _]], []) : Snap)) (gosO_next hjl))), by omega, rfl⟩)
      | (have hjl : ¬ j < l.length := nltN (by with_reducible assumption)
         first
           | exact absurd (show (!false) = false by with_reducible assumption) (by decide)
           | exact absurd (show (!true) = true by with_reducible assumption) (by decide)
           | exact ⟨_, rfl⟩
           | (refine congrArg (fun q : List (List D) => [CV.sl false 36 q]) ?_
              rw [List.take_length]
              first | exact gos_f (by rw [hv]; rfl) | (have ho : okLog (opsL l l.length) = false := of_notT (by with_reducible assumption); exact gos_f (by rw [ho, Bool.and_false])))
           | (refine congrArg (fun q : List (List D) => [CV.sl false 36 q]) ?_
              rw [take_allR hjl]
              exact gos_t hv (of_notF (by with_reducible assumption))))
      | (show Alive _ _; exact rfl)
      | skip)
end Go.Proofs.YtaecbmjmcpdgdaaGreat.Ab
