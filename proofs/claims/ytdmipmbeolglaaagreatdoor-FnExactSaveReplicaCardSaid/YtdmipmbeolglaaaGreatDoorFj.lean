/- The program's check of operations: printed by a program of this claim. -/
import Derived.Test.YtdmipmbeolglaaaGreatDoorFi
namespace Go.Proofs.YtdmipmbeolglaaaGreatDoor.Ab
open Go.RowKit
set_option linter.unusedVariables false
set_option linter.unusedSimpArgs false
set_option maxRecDepth 100000
set_option maxHeartbeats 1000000
theorem hEmp : ByteArray.empty.toList = (⟨#[]⟩ : ByteArray).toList := rfl
theorem eqInt (x y : Int) : (x == y) = decide (x = y) := by by_cases h : x = y <;> simp [h]
/-- impl.IsValidOp -/
theorem ok36 : FOk Tryz.prog T 36 (spOp T [.i .i64, .i .i64, .i .i64, .l 3, .i .i64, .i .i64, .i .i64, .i .i64, .i .i64, .s, .s, .i .i64, .s, .s, .i .i64, .i .i64, .l 74]) := by
  refine fok (env := envL [(63, spIn)]) (N := 81) tabT (envL_cons ok63 envL_nil) mixed Tryz.func36 rfl Tryz.call36 Tryz.ntmps36 ?_
  rintro args ⟨a, wa, rfl⟩ hwf
  have wS : WfD T (.l 3) (.l (a.getD 3 default).rows) := wa.rows (j := 3) rfl
  have la := wS.len
  refine ⟨by simp, ?_⟩
  rw [Tryz.results36]
  clear hwf
  have hok := okOp_rowC wa
  repeat' first
    | (refine And.intro ?_ ?_)
    | (intro h; cases h)
    | (intro h; rw [h])
    | (intro h)
  all_goals first
    | (show lowEdges _ = true; kernel_rfl) | (show logOk _ _ = true; kernel_rfl) | exact True.intro | exact rfl | exact Or.inr rfl | exact Or.inl rfl
    | exact ⟨_, rfl⟩
    | exact ⟨_, _, _, rfl⟩
    | (refine resB (Eq.trans ?_ hok.symm); simp_all [okOp, seenB]; done)
    | (have hh : ¬ (a.getD 3 default).rows.length = 3 := fun hc => by
         have hd : ((((a.getD 3 default).rows.length : Int) != 3)) = true := ‹_›
         rw [hc] at hd
         exact absurd hd (by decide)
       refine resB (Eq.trans ?_ hok.symm)
       have hs : seenB (a.getD 3 default).rows = false := by unfold seenB; rw [decide_eq_false hh, Bool.and_false]
       unfold okOp
       rw [hs]
       simp)
    | skip
  have hl : ((a.getD 3 default).rows.length : Int) = 3 := by simpa using ‹((((a.getD 3 default).rows.length : Int) != 3)) = false›
  refine awp_loop (Q := _) [25, 26, 27, 1] [1] (fun n q => ∃ i : Int, q = ([argS 3 (a.getD 3 default).rows, .val false [.i .i64 ((a.getD 3 default).rows.length : Int)], .val false [.i .i64 i], .ptr 1 1 0], [(1, (rowC [.i .i64, .i .i64, .i .i64, .l 3, .i .i64, .i .i64, .i .i64, .i .i64, .i .i64, .s, .s, .i .i64, .s, .s, .i .i64, .i .i64, .l 74] a).map fun c => .val false [c])]) ∧ 0 ≤ i ∧ i ≤ (a.getD 3 default).rows.length ∧ n = (a.getD 3 default).rows.length - i.toNat ∧ ((a.getD 3 default).rows.take i.toNat).all (fun r => inR (intOf r) 0 60) = true) ?_ ?_
  · exact ⟨rfl, (a.getD 3 default).rows.length - 0, 0, rfl, by omega, by omega, rfl, rfl⟩
  rintro n q ⟨i, rfl, h1, h2, h3, h4⟩
  repeat' first
    | (refine And.intro ?_ ?_)
    | (intro h; cases h)
    | (intro h; rw [h])
    | (intro h)
  all_goals first
    | (show lowEdges _ = true; kernel_rfl) | (show logOk _ _ = true; kernel_rfl) | exact True.intro | exact rfl | exact Or.inr rfl | exact Or.inl rfl
    | omega
    | exact of_decide_eq_true ‹_›
    | exact ⟨_, _, _, rfl⟩
    | (have hi : i < ((a.getD 3 default).rows.length : Int) := of_decide_eq_true ‹decide (i < ((a.getD 3 default).rows.length : Int)) = true›
       first
         | (have hA := all_stop (p := fun r => inR (intOf r) 0 60) h1 hi (by simpa using ‹(!inR _ 0 60) = true›)
            refine resB (Eq.trans ?_ hok.symm)
            have hs : seenB (a.getD 3 default).rows = false := by unfold seenB; rw [hA, Bool.false_and]
            unfold okOp
            rw [hs]
            simp)
         | exact ⟨(a.getD 3 default).rows.length - (i + 1).toNat, by omega, i + 1, congrArg (fun z : Int => (([argS 3 (a.getD 3 default).rows, .val false [.i .i64 ((a.getD 3 default).rows.length : Int)], .val false [.i .i64 z], .ptr 1 1 0], [(1, (rowC [.i .i64, .i .i64, .i .i64, .l 3, .i .i64, .i .i64, .i .i64, .i .i64, .i .i64, .s, .s, .i .i64, .s, .s, .i .i64, .i .i64, .l 74] a).map fun c => .val false [c])]) : Snap)) (wrap_next h1 hi la), by omega, by omega, rfl, all_next h1 hi h4 (by simpa using ‹(!inR _ 0 60) = false›)⟩)
    | (have hs : seenB (a.getD 3 default).rows = true := by
         have hA := all_end h1 h2 (by assumption) h4
         unfold seenB
         rw [hA, decide_eq_true (by omega)]
         rfl
       refine resB (Eq.trans ?_ hok.symm)
       clear hok wa wS h4
       simp only [Nat.reduceAdd] at *
       unfold okOp
       rw [hs]
       first
         | (simp_all [noEdit, noNames, noTape, eqDs, eqD, inR, hEmp]; done)
         | (simp_all [noEdit, noNames, noTape, eqDs, eqD, inR, hEmp]; omega))
end Go.Proofs.YtdmipmbeolglaaaGreatDoor.Ab
