/- Operations' numbers, and when operations have a text: printed by a program of this claim. -/
import Derived.Test.YtdmipmbeolglaaaGreatDoorFj
import Derived.Test.YtdmipmbeolglaaaGreatDoorFk
namespace Go.Proofs.YtdmipmbeolglaaaGreatDoor.Ab
open Go.RowKit
set_option linter.unusedVariables false
set_option linter.unusedSimpArgs false
set_option maxRecDepth 100000
set_option maxHeartbeats 1000000
/-- spec.l45Numbers -/
theorem ok28 : FOk Tryz.prog T 28 (spNums T [.i .i64, .i .i64, .i .i64, .l 3, .i .i64, .i .i64, .i .i64, .i .i64, .i .i64, .s, .s, .i .i64, .s, .s, .i .i64, .i .i64, .l 74]) := by
  refine fok (env := envL []) (N := 40) tabT envL_nil mixed Tryz.func28 rfl Tryz.call28 Tryz.ntmps28 ?_
  rintro args ⟨a, wa, hs, rfl⟩ hwf
  have h1 := hs.1
  have hl := opNums_length a
  refine ⟨by simp, ?_⟩
  rw [Tryz.results28]
  clear hwf
  have hok : opNums (csD (rowC [.i .i64, .i .i64, .i .i64, .l 3, .i .i64, .i .i64, .i .i64, .i .i64, .i .i64, .s, .s, .i .i64, .s, .s, .i .i64, .i .i64, .l 74] a)) = opNums a := by rw [csD_rowC wa]
  repeat' first
    | (refine And.intro ?_ ?_)
    | (intro h; cases h)
    | (intro h; rw [h])
    | (intro h)
  all_goals first
    | (show lowEdges _ = true; kernel_rfl) | (show logOk _ _ = true; kernel_rfl) | exact True.intro | exact rfl | exact Or.inr rfl | exact Or.inl rfl
    | (show 3 + (a.getD 3 default).rows.length ≤ maxLen; simp only [maxLen]; omega)
    | (show (3 + (a.getD 3 default).rows.length) * 8 ≤ 140737488355328; omega)
    | (rw [List.length_append]; show 3 + (a.getD 3 default).rows.length + 6 ≤ maxLen; simp only [maxLen]; omega)
    | (rw [List.length_append]; show (3 + (a.getD 3 default).rows.length + 6) * 8 ≤ 140737488355328; omega)
    | exact congrArg (fun z => [CV.sl true 3 z]) hok.symm
theorem badRd {r : List D} (wr : WfRow T [.i .i64, .i .i64, .i .i64, .s, .i .i64, .i .i64, .i .i64, .s, .l 72, .l 9, .l 112] r) (hl : (r.getD 9 default).rows.length + (r.getD 10 default).rows.length ≤ 2097152) (h : (!g57 [argG [.i .i64, .i .i64, .i .i64, .s, .l 72, .l 9, .l 112] (sub r 4 7)]) = true) : goodRd r = false := by
  by_cases hk : (r.getD 4 default).int = 1 ∨ (r.getD 4 default).int = 6
  · have hv := val57 _ ⟨sub r 4 7, wr.sub 4 7 (by decide), Nat.le_trans hl (by decide), hk, rfl⟩
    have he : svOk [argG [.i .i64, .i .i64, .i .i64, .s, .l 72, .l 9, .l 112] (sub r 4 7)] = okVal (sub r 4 7) := congrArg okVal (csD_rowC (wr.sub 4 7 (by decide)))
    rw [hv, he] at h
    unfold goodRd
    rw [show okVal (sub r 4 7) = false by simpa using h, Bool.and_false]
  · unfold goodRd
    have h1 : ((r.getD 4 default).int == 1) = false := by simp only [beq_eq_false_iff_ne, ne_eq]; exact fun h => hk (.inl h)
    have h6 : ((r.getD 4 default).int == 6) = false := by simp only [beq_eq_false_iff_ne, ne_eq]; exact fun h => hk (.inr h)
    rw [h1, h6]
    rfl
theorem goodRd_of {r : List D} (wr : WfRow T [.i .i64, .i .i64, .i .i64, .s, .i .i64, .i .i64, .i .i64, .s, .l 72, .l 9, .l 112] r) (hl : (r.getD 9 default).rows.length + (r.getD 10 default).rows.length ≤ 2097152) (h : (!g57 [argG [.i .i64, .i .i64, .i .i64, .s, .l 72, .l 9, .l 112] (sub r 4 7)]) = false) (hk : (r.getD 4 default).int = 1 ∨ (r.getD 4 default).int = 6) : goodRd r = true := by
  have hv := val57 _ ⟨sub r 4 7, wr.sub 4 7 (by decide), Nat.le_trans hl (by decide), hk, rfl⟩
  have he : svOk [argG [.i .i64, .i .i64, .i .i64, .s, .l 72, .l 9, .l 112] (sub r 4 7)] = okVal (sub r 4 7) := congrArg okVal (csD_rowC (wr.sub 4 7 (by decide)))
  rw [hv, he] at h
  unfold goodRd
  rw [show okVal (sub r 4 7) = true by simpa using h, Bool.and_true]
  rcases hk with h1 | h6
  · rw [h1]; rfl
  · rw [h6]; rfl
theorem goodRd_no {r : List D} (h1 : ((r.getD 4 default).int != 1) = true) (h6 : ((r.getD 4 default).int != 6) = true) : goodRd r = false := by
  unfold goodRd
  have h1 : ((r.getD 4 default).int == 1) = false := by simpa using h1
  have h6 : ((r.getD 4 default).int == 6) = false := by simpa using h6
  rw [h1, h6]
  rfl
/-- spec.l45Good -/
theorem ok27 : FOk Tryz.prog T 27 (spGood T [.i .i64, .i .i64, .i .i64, .l 3, .i .i64, .i .i64, .i .i64, .i .i64, .i .i64, .s, .s, .i .i64, .s, .s, .i .i64, .i .i64, .l 74]) := by
  refine fok (env := envL [(28, (spNums T [.i .i64, .i .i64, .i .i64, .l 3, .i .i64, .i .i64, .i .i64, .i .i64, .i .i64, .s, .s, .i .i64, .s, .s, .i .i64, .i .i64, .l 74])), (57, sp57), (58, spNum), (59, (spOp T [.i .i64, .i .i64, .i .i64, .l 3, .i .i64, .i .i64, .i .i64, .i .i64, .i .i64, .s, .s, .i .i64, .s, .s, .i .i64, .i .i64, .l 74]))]) (N := 66) tabT (envL_cons ok28 (envL_cons ok57 (envL_cons ok58 (envL_cons ok59 envL_nil)))) mixed Tryz.func27 rfl Tryz.call27 Tryz.ntmps27 ?_
  rintro args ⟨a, wa, hs, rfl⟩ hwf
  have hs1 := hs.1
  have hs2 := hs.2.1
  have hs4 := hs.2.2.2
  have hl := opNums_length a
  have wR : WfD T (.l 74) (.l (rds a)) := wa.rows (j := 16) rfl
  have lr := wR.len
  refine ⟨by simp, ?_⟩
  rw [Tryz.results27]
  clear hwf
  have hrow : csD (rowC [.i .i64, .i .i64, .i .i64, .l 3, .i .i64, .i .i64, .i .i64, .i .i64, .i .i64, .s, .s, .i .i64, .s, .s, .i .i64, .i .i64, .l 74] a) = a := csD_rowC wa
  have hok : goodOp (csD (rowC [.i .i64, .i .i64, .i .i64, .l 3, .i .i64, .i .i64, .i .i64, .i .i64, .i .i64, .s, .s, .i .i64, .s, .s, .i .i64, .i .i64, .l 74] a)) = goodOp a := by rw [csD_rowC wa]
  repeat' first
    | (refine And.intro ?_ ?_)
    | (intro h; cases h)
    | (intro h; rw [h])
    | (intro h)
  all_goals first
    | (show lowEdges _ = true; kernel_rfl) | (show logOk _ _ = true; kernel_rfl) | exact True.intro | exact rfl | exact Or.inr rfl | exact Or.inl rfl
    | exact ⟨a, wa, hs, rfl⟩
    | (show (opNums (csD (rowC [.i .i64, .i .i64, .i .i64, .l 3, .i .i64, .i .i64, .i .i64, .i .i64, .i .i64, .s, .s, .i .i64, .s, .s, .i .i64, .i .i64, .l 74] a))).length + 2 ≤ maxLen; rw [hrow]; simp only [maxLen]; omega)
    | (show ((opNums (csD (rowC [.i .i64, .i .i64, .i .i64, .l 3, .i .i64, .i .i64, .i .i64, .i .i64, .i .i64, .s, .s, .i .i64, .s, .s, .i .i64, .i .i64, .l 74] a))).length + 2) * 8 ≤ 140737488355328; rw [hrow]; omega)
    | skip
  refine awp_loop (Q := _) [1, 3, 4] [1] (fun n q => ∃ i : Int, q = ([.ptr 1 1 0, .val false [.sl true 3 (opNumsTo a i.toNat)], .val false [.i .i64 i]], [(1, (rowC [.i .i64, .i .i64, .i .i64, .l 3, .i .i64, .i .i64, .i .i64, .i .i64, .i .i64, .s, .s, .i .i64, .s, .s, .i .i64, .i .i64, .l 74] a).map fun c => .val false [c])]) ∧ 0 ≤ i ∧ i ≤ (rds a).length ∧ n = (rds a).length - i.toNat ∧ ((rds a).take i.toNat).all goodRd = true) ?_ ?_
  · refine ⟨rfl, (rds a).length - 0, 0, ?_, by omega, by omega, rfl, rfl⟩
    have : opNumsTo a (0 : Int).toNat = opNums (csD (rowC [.i .i64, .i .i64, .i .i64, .l 3, .i .i64, .i .i64, .i .i64, .i .i64, .i .i64, .s, .s, .i .i64, .s, .s, .i .i64, .i .i64, .l 74] a)) ++ ints a [14, 15] := by rw [hrow]; simp [opNumsTo]
    rw [this]
    rfl
  rintro n q ⟨i, rfl, h1, h2, h3, h4⟩
  have hli := opNumsTo_length (a := a) (i := i.toNat) (by omega)
  repeat' first
    | (refine And.intro ?_ ?_)
    | (intro h; cases h)
    | (intro h; rw [h])
    | (intro h)
  all_goals first
    | (show lowEdges _ = true; kernel_rfl) | (show logOk _ _ = true; kernel_rfl) | exact True.intro | exact rfl | exact Or.inr rfl | exact Or.inl rfl
    | omega
    | exact of_decide_eq_true ‹_›
    | (have hi : i < ((rds a).length : Int) := of_decide_eq_true ‹decide (i < ((rds a).length : Int)) = true›
       have wr : WfRow T [.i .i64, .i .i64, .i .i64, .s, .i .i64, .i .i64, .i .i64, .s, .l 72, .l 9, .l 112] ((rds a).getD i.toNat []) := wR.row rfl (by omega)
       have hb := (hs4 i.toNat (by omega)).2
       first
         | exact ⟨_, wr.sub 4 7 (by decide), rfl⟩
         | (show (opNumsTo a i.toNat).length + 3 ≤ maxLen; simp only [maxLen]; omega)
         | (show ((opNumsTo a i.toNat).length + 3) * 8 ≤ 140737488355328; omega)
         | (refine resB (Eq.trans ?_ hok.symm)
            have hbad : goodRd ((rds a).getD i.toNat []) = false := by first | exact badRd wr hb ‹_› | exact goodRd_no ‹_› ‹_›
            unfold goodOp
            rw [all_stop h1 hi hbad, Bool.false_and])
         | (have hgd : goodRd ((rds a).getD i.toNat []) = true := by
              refine goodRd_of wr hb (by assumption) ?_
              first
                | (left; simpa using ‹(_ != (1 : Int)) = false›)
                | (right; simpa using ‹(_ != (6 : Int)) = false›)
            refine ⟨(rds a).length - (i + 1).toNat, by omega, i + 1, ?_, by omega, by omega, rfl, all_next h1 hi h4 hgd⟩
            exact snapR (fun r z => ([.ptr 1 1 0, .val false [.sl true 3 r], .val false [.i .i64 z]], [(1, (rowC [.i .i64, .i .i64, .i .i64, .l 3, .i .i64, .i .i64, .i .i64, .i .i64, .i .i64, .s, .s, .i .i64, .s, .s, .i .i64, .i .i64, .l 74] a).map fun c => .val false [c])])) (opNumsTo_next h1 hi) (wrap_next h1 hi lr)))
    | skip
  have he : i.toNat = (rds a).length := by
    have : ¬ i < ((rds a).length : Int) := of_decide_eq_false (by assumption)
    omega
  rw [he, List.take_length] at h4
  rw [he] at hli
  rw [he]
  have hln : (opNumsTo a (rds a).length).length ≤ maxLen := by simp only [maxLen]; omega
  refine awp_loop (Q := _) [1, 3, 6] [1] (fun n q => ∃ k : Int, q = ([.ptr 1 1 0, .val false [.sl true 3 (opNumsTo a (rds a).length)], .val false [.i .i64 k]], [(1, (rowC [.i .i64, .i .i64, .i .i64, .l 3, .i .i64, .i .i64, .i .i64, .i .i64, .i .i64, .s, .s, .i .i64, .s, .s, .i .i64, .i .i64, .l 74] a).map fun c => .val false [c])]) ∧ 0 ≤ k ∧ k ≤ (opNumsTo a (rds a).length).length ∧ n = (opNumsTo a (rds a).length).length - k.toNat ∧ ((opNumsTo a (rds a).length).take k.toNat).all numRow = true) ?_ ?_
  · exact ⟨rfl, (opNumsTo a (rds a).length).length - 0, 0, rfl, by omega, by omega, rfl, rfl⟩
  rintro n q ⟨k, rfl, k1, k2, k3, k4⟩
  repeat' first
    | (refine And.intro ?_ ?_)
    | (intro h; cases h)
    | (intro h; rw [h])
    | (intro h)
  all_goals first
    | (show lowEdges _ = true; kernel_rfl) | (show logOk _ _ = true; kernel_rfl) | exact True.intro | exact rfl | exact Or.inr rfl | exact Or.inl rfl
    | omega
    | exact of_decide_eq_true ‹_›
    | exact ⟨a, wa, rfl⟩
    | exact ⟨_, rfl⟩
    | (have hk : k < ((opNumsTo a (rds a).length).length : Int) := of_decide_eq_true ‹decide (k < ((opNumsTo a (rds a).length).length : Int)) = true›
       first
         | omega
         | (refine resB (Eq.trans ?_ hok.symm)
            have hA := all_stop (p := numRow) k1 hk (by simpa [numRow] using ‹(!inR _ (-1000000000) 1000000000) = true›)
            unfold goodOp
            rw [hA, Bool.false_and, Bool.and_false])
         | exact ⟨(opNumsTo a (rds a).length).length - (k + 1).toNat, by omega, k + 1, congrArg (fun z : Int => (([.ptr 1 1 0, .val false [.sl true 3 (opNumsTo a (rds a).length)], .val false [.i .i64 z]], [(1, (rowC [.i .i64, .i .i64, .i .i64, .l 3, .i .i64, .i .i64, .i .i64, .i .i64, .i .i64, .s, .s, .i .i64, .s, .s, .i .i64, .i .i64, .l 74] a).map fun c => .val false [c])]) : Snap)) (wrap_next k1 hk hln), by omega, by omega, rfl, all_next k1 hk k4 (by simpa [numRow] using ‹(!inR _ (-1000000000) 1000000000) = false›)⟩)
    | (have hA := all_end k1 k2 (by assumption) k4
       refine resB (Eq.trans ?_ hok.symm)
       unfold goodOp
       rw [h4, hA, Bool.true_and, Bool.true_and]
       exact congrArg okOp hrow)
end Go.Proofs.YtdmipmbeolglaaaGreatDoor.Ab
