/- The law FnNewReads, over data: printed by a program of this claim. -/
import Derived.Test.YtfmjpoibfpgfbaaNl
namespace Go.Proofs.Ytfmjpoibfpgfbaa.Ab
open Go.RowKit
set_option linter.unusedVariables false
set_option linter.unusedSimpArgs false
set_option maxRecDepth 100000
set_option maxHeartbeats 1000000
/-- laws.big -/
theorem ok4 : FOk Try.prog T 4 (spBig 5) := by
  refine fok (env := envL []) (N := 6) tabT envL_nil mixed Try.func4 rfl Try.call4 Try.ntmps4 ?_
  rintro args ⟨rows, rfl⟩ hwf
  clear hwf
  refine ⟨by simp, ?_⟩
  rw [Try.results4]
  repeat' first
    | (refine And.intro ?_ ?_)
    | (intro h; simp only [reduceCtorEq] at h; done)
    | (intro h; rw [h])
    | (intro h)
  all_goals first
    | (show lowEdges _ = true; kernel_rfl) | (show logOk _ _ = true; kernel_rfl) | exact True.intro | exact Or.inr rfl | exact Or.inl rfl
    | rfl
/-- laws.sameTapes -/
theorem ok7 : FOk Try.prog T 7 (spSameT T 32) := by
  refine fok (env := envL [(15, (eqP [.l 77, .l 32, .l 107] 2))]) (N := 10) tabT (envL_cons ok15 envL_nil) mixed Try.func7 rfl Try.call7 Try.ntmps7 ?_
  rintro args ⟨a, rfl⟩ hwf
  have wa : WfD T (.l 32) (.l a) := arg0 hwf (List.mem_singleton_self _)
  clear hwf
  refine ⟨by simp, ?_⟩
  rw [Try.results7]
  repeat' first
    | (refine And.intro ?_ ?_)
    | (intro h; simp only [reduceCtorEq] at h; done)
    | (intro h; rw [h])
    | (intro h)
  all_goals first
    | (show lowEdges _ = true; kernel_rfl) | (show logOk _ _ = true; kernel_rfl) | exact True.intro | exact Or.inr rfl | exact Or.inl rfl
    | exact ⟨[.l [], .l a, .l []], [.l [], .l a, .l []], wf3 wa, wf3 wa, rfl⟩
    | exact res_same
    | rfl
/-- spec.DrawNewReads -/
theorem ok5 : FOk Try.prog T 5 (spDrawNR 5 32) := by
  refine fok (env := envL [(10, (spNewC 5)), (11, (spDr26 5 32))]) (N := 11) tabT (envL_cons ok10 (envL_cons ok11 envL_nil)) mixed Try.func5 rfl Try.call5 Try.ntmps5 ?_
  rintro args ⟨rows, hr, rfl⟩ hwf
  clear hwf
  refine ⟨by simp, ?_⟩
  rw [Try.results5]
  repeat' first
    | (refine And.intro ?_ ?_)
    | (intro h; simp only [reduceCtorEq] at h; done)
    | (intro h; rw [h])
    | (intro h)
  all_goals first
    | (show lowEdges _ = true; kernel_rfl) | (show logOk _ _ = true; kernel_rfl) | exact True.intro | exact Or.inr rfl | exact Or.inl rfl
    | exact ⟨_, hr, rfl⟩
    | exact ⟨_, _, _, cur0 hr, rfl⟩
    | exact ⟨_, _, _, (dA_ok hr).2.2.2, rfl⟩
    | (show List.length _ = _; rfl)
    | rfl
    | skip
/-- laws.FnNewReads, of any functions that meet LawF -/
theorem core3 {gA gB : TS → TS} {nr : TS → TS → TS} {pt : TS → Int → Int → TS → TS} {pto : TS → TS → Nat → TS} (F : LawF gA gB nr pt pto) (h5 : FOk Try.prog T 5 (spDrawG 5 32 gA gB)) (h6 : FOk Try.prog T 6 (spNewG 32 nr)) (h8 : FOk Try.prog T 8 (spNewG 32 nr)) (h9 : FOk Try.prog T 9 (spPutG 32 42 pt)) : FOk Try.prog T 3 (lawB 5) := by
  refine fok (env := envL [(4, (spBig 5)), (5, (spDrawG 5 32 gA gB)), (6, (spNewG 32 nr)), (8, (spNewG 32 nr)), (7, (spSameT T 32)), (9, (spPutG 32 42 pt))]) (N := 60) tabT (envL_cons ok4 (envL_cons h5 (envL_cons h6 (envL_cons h8 (envL_cons ok7 (envL_cons h9 envL_nil)))))) mixed Try.func3 rfl Try.call3 Try.ntmps3 ?_
  rintro args ⟨rows, rfl⟩ hwf
  clear hwf
  refine ⟨by simp, ?_⟩
  rw [Try.results3]
  by_cases hbig : (rows.length : Int) > 1048576
  · repeat' first
      | (refine And.intro ?_ ?_)
      | (intro h; exact absurd hbig (of_decide_eq_false h))
      | (intro h)
    all_goals first
      | (show lowEdges _ = true; kernel_rfl) | (show logOk _ _ = true; kernel_rfl) | exact True.intro | exact Or.inr rfl | exact Or.inl rfl
      | exact ⟨_, rfl⟩
      | rfl
  have hr : rows.length ≤ 1048576 := by omega
  obtain ⟨a1, a3, a2⟩ := F.ga rows hr
  obtain ⟨b1, b2⟩ := F.gb rows hr
  obtain ⟨l1, l2⟩ := F.ng (gA rows) (gB rows) b1
  have lw : (nr (gA rows) (gB rows)).length ≤ maxLen := by simp only [maxLen]; omega
  repeat' first
    | (refine And.intro ?_ ?_)
    | (intro h; simp only [reduceCtorEq] at h; done)
    | (intro h; rw [h])
    | (intro h)
  all_goals first
    | (show lowEdges _ = true; kernel_rfl) | (show logOk _ _ = true; kernel_rfl) | exact True.intro | exact Or.inr rfl | exact Or.inl rfl
    | exact ⟨_, rfl⟩
    | exact ⟨_, hr, rfl⟩
    | exact ⟨_, _, a1.flat, by omega, by omega, rfl⟩
    | (show [CV.b true] = [CV.b true]; rfl)
    | (show [CV.b false] = [CV.b true]; exact absurd h (by decide))
    | skip
  refine awp_loop (Q := _) [3, 4, 5, 6, 7] [] (fun n s => ∃ (i : Int) (o : Bool), s = ([.val false [.sl false 32 (gA rows)], .val false [.sl false 32 (gB rows)], .val false [.sl true 32 (nr (gA rows) (gB rows))], .val false [.sl o 32 (pto (gA rows) (nr (gA rows) (gB rows)) i.toNat)], .val false [.i .i64 i]], []) ∧ 0 ≤ i ∧ i ≤ (nr (gA rows) (gB rows)).length ∧ n = (nr (gA rows) (gB rows)).length - i.toNat) ?_ ?_
  · refine ⟨rfl, (nr (gA rows) (gB rows)).length - 0, 0, false, ?_, by omega, by omega, rfl⟩
    exact congrArg (fun r => (([.val false [.sl false 32 (gA rows)], .val false [.sl false 32 (gB rows)], .val false [.sl true 32 (nr (gA rows) (gB rows))], .val false [.sl false 32 r], .val false [.i .i64 0]], []) : Snap)) (F.p0 _ _).symm
  rintro n s ⟨i, o, rfl, h1, h2, h3⟩
  obtain ⟨p1, p2⟩ := F.pg _ _ a1 l1 i.toNat
  have hpe := F.pe _ _ a1 b1 i h1 h2
  have hpn := F.pn (gA rows) (nr (gA rows) (gB rows)) i h1
  cases o
  all_goals
  repeat' first
      | (refine And.intro ?_ ?_)
      | (intro h; simp only [reduceCtorEq] at h; done)
      | (intro h; rw [h])
      | (intro h)
  all_goals first
    | (show lowEdges _ = true; kernel_rfl) | (show logOk _ _ = true; kernel_rfl) | exact True.intro | exact Or.inr rfl | exact Or.inl rfl
    | omega
    | exact of_decide_eq_true ‹_›
    | exact ⟨_, _, p1.flat, by omega, by omega, rfl⟩
    | exact ⟨_, _, a1.flat, by omega, by omega, rfl⟩
    | (have hi : i < ((nr (gA rows) (gB rows)).length : Int) := of_decide_eq_true ‹decide (i < ((nr (gA rows) (gB rows)).length : Int)) = true›
       obtain ⟨c, v, rs, e, f1, f2, f3⟩ := l1.at (k := i.toNat) (by omega)
       have hw := wRow_le (a := (nr (gA rows) (gB rows))) (k := i.toNat) (by omega)
       rw [e, wRow_tape] at hw
       have g0 : (((nr (gA rows) (gB rows)).getD i.toNat []).getD 0 default).int = c := by rw [e]; rfl
       have g1 : (((nr (gA rows) (gB rows)).getD i.toNat []).getD 1 default).int = v := by rw [e]; rfl
       have g2 : (((nr (gA rows) (gB rows)).getD i.toNat []).getD 2 default).rows = rs := by rw [e]; rfl
       first
         | omega
         | exact ⟨_, _, _, _, p1.flat, by rw [g2]; exact f1, by rw [g0]; exact f2, by rw [g1]; exact f3, by rw [g2]; omega, rfl⟩
         | (refine ⟨(nr (gA rows) (gB rows)).length - (i + 1).toNat, by omega, i + 1, true, ?_, by omega, by omega, rfl⟩
            exact snapT (fun r z => (([.val false [.sl false 32 (gA rows)], .val false [.sl false 32 (gB rows)], .val false [.sl true 32 (nr (gA rows) (gB rows))], .val false [.sl true 32 r], .val false [.i .i64 z]], []) : Snap)) (hpn hi).symm (wrap_next h1 hi lw)))
    | exact rfl
    | exact res_len a2
    | exact (no_len (hpe ‹decide (i < ((nr (gA rows) (gB rows)).length : Int)) = false›) (by assumption)).elim
    | skip
theorem ok3 : FOk Try.prog T 3 (lawB 5) := core3 lawF ok5 ok6 ok8 ok9
end Go.Proofs.Ytfmjpoibfpgfbaa.Ab
