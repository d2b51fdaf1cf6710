/- The law, over data: printed by a program of this claim. -/
import Derived.Test.YtijnlnmoellbaaaGreatLw
import Derived.Test.YtijnlnmoellbaaaGreatEi2
namespace Go.Proofs.YtijnlnmoellbaaaGreat.Ab
open Go.RowKit
set_option linter.unusedVariables false
set_option linter.unusedSimpArgs false
set_option maxRecDepth 100000
set_option maxHeartbeats 8000000
def isoL3 : List (TypeId × TypeId) := [(176, 90), (178, 116), (139, 153), (210, 185), (144, 103), (9, 9), (234, 189), (3, 3), (254, 198), (146, 105), (150, 83), (216, 118)]
theorem iso_ok3 : isoOk T isoL3 = true := by kernel_rfl
/-- laws.FnExactEqualSession -/
theorem ok3 : FOk Tryz.prog T 3 (lawG2 T [.l 176, .i .i64, .i .i64, .l 178, .l 139, .l 146, .i .i64, .i .i64, .i .i64, .l 176, .l 150, .i .i64]) := by
  refine fok (env := envL [(5, (szG [.l 176, .i .i64, .i .i64, .l 178, .l 139, .l 146, .i .i64, .i .i64, .i .i64, .l 176, .l 150, .i .i64])), (7, (toG T [.l 176, .i .i64, .i .i64, .l 178, .l 139, .l 146, .i .i64, .i .i64, .i .i64, .l 176, .l 150, .i .i64] [.l 90, .i .i64, .i .i64, .l 116, .l 153, .l 105, .i .i64, .i .i64, .i .i64, .l 90, .l 83, .i .i64])), (6, (eqG [.l 90, .i .i64, .i .i64, .l 116, .l 153, .l 105, .i .i64, .i .i64, .i .i64, .l 90, .l 83, .i .i64])), (8, (eqG [.l 90, .i .i64, .i .i64, .l 116, .l 153, .l 105, .i .i64, .i .i64, .i .i64, .l 90, .l 83, .i .i64])), (9, (eqG [.l 90, .i .i64, .i .i64, .l 116, .l 153, .l 105, .i .i64, .i .i64, .i .i64, .l 90, .l 83, .i .i64]))]) (N := 45) tabT (envL_cons ok5 (envL_cons ok7 (envL_cons ok6 (envL_cons ok8 (envL_cons ok9 envL_nil))))) mixed Tryz.func3 rfl Tryz.call3 Tryz.ntmps3 ?_
  rintro args ⟨a, b, wa, wb, rfl⟩ hwf
  have wa' := (wa.iso iso_ok3 (cts' := [.l 90, .i .i64, .i .i64, .l 116, .l 153, .l 105, .i .i64, .i .i64, .i .i64, .l 90, .l 83, .i .i64]) rfl)
  have wb' := (wb.iso iso_ok3 (cts' := [.l 90, .i .i64, .i .i64, .l 116, .l 153, .l 105, .i .i64, .i .i64, .i .i64, .l 90, .l 83, .i .i64]) rfl)
  rw [← csD_rowC wa] at wa'
  rw [← csD_rowC wb] at wb'
  refine ⟨by simp, ?_⟩
  clear hwf
  rw [Tryz.results3]
  repeat' first
    | (refine And.intro ?_ ?_)
    | (intro h; cases h)
    | (intro h; rw [h])
    | (intro h)
  all_goals first
    | (show lowEdges _ = true; kernel_rfl) | (show logOk _ _ = true; kernel_rfl) | trivial | exact Or.inr rfl | exact Or.inl rfl
    | skip
  · exact ⟨_, _, wa, by decide, by decide, rfl⟩
  · have e1 := szB (r' := csD (rowC [.l 176, .i .i64, .i .i64, .l 178, .l 139, .l 146, .i .i64, .i .i64, .i .i64, .l 176, .l 150, .i .i64] a)) h rfl (by decide)
    exact ⟨_, _, wb, e1.2.2, e1.2.1, rfl⟩
  · rename_i h1
    exact ⟨_, wa, (szB (r' := csD (rowC [.l 176, .i .i64, .i .i64, .l 178, .l 139, .l 146, .i .i64, .i .i64, .i .i64, .l 176, .l 150, .i .i64] a)) h1 rfl (by decide)).1, rfl⟩
  · rename_i h1
    exact ⟨_, wb, (szB (r' := csD (rowC [.l 176, .i .i64, .i .i64, .l 178, .l 139, .l 146, .i .i64, .i .i64, .i .i64, .l 176, .l 150, .i .i64] b)) h rfl (szB (r' := csD (rowC [.l 176, .i .i64, .i .i64, .l 178, .l 139, .l 146, .i .i64, .i .i64, .i .i64, .l 176, .l 150, .i .i64] a)) h1 rfl (by decide)).2.1).1, rfl⟩
  · exact ⟨_, _, wa', wb', rfl⟩
  · rename_i h1
    exact ⟨_, wa, (szB (r' := csD (rowC [.l 176, .i .i64, .i .i64, .l 178, .l 139, .l 146, .i .i64, .i .i64, .i .i64, .l 176, .l 150, .i .i64] a)) h1 rfl (by decide)).1, rfl⟩
  · rename_i h1
    exact ⟨_, wb, (szB (r' := csD (rowC [.l 176, .i .i64, .i .i64, .l 178, .l 139, .l 146, .i .i64, .i .i64, .i .i64, .l 176, .l 150, .i .i64] b)) h rfl (szB (r' := csD (rowC [.l 176, .i .i64, .i .i64, .l 178, .l 139, .l 146, .i .i64, .i .i64, .i .i64, .l 176, .l 150, .i .i64] a)) h1 rfl (by decide)).2.1).1, rfl⟩
  · exact ⟨_, _, wa', wb', rfl⟩
  · exact (no_bne h).elim
  · rename_i h1 h2
    exact ⟨_, wa, (szB (r' := csD (rowC [.l 176, .i .i64, .i .i64, .l 178, .l 139, .l 146, .i .i64, .i .i64, .i .i64, .l 176, .l 150, .i .i64] a)) h1 rfl (by decide)).1, rfl⟩
  · exact ⟨_, _, wa', wa', rfl⟩
  · exact (no_not h).elim
  · rename_i h1 h2 h3
    exact ⟨_, wb, (szB (r' := csD (rowC [.l 176, .i .i64, .i .i64, .l 178, .l 139, .l 146, .i .i64, .i .i64, .i .i64, .l 176, .l 150, .i .i64] b)) h2 rfl (szB (r' := csD (rowC [.l 176, .i .i64, .i .i64, .l 178, .l 139, .l 146, .i .i64, .i .i64, .i .i64, .l 176, .l 150, .i .i64] a)) h1 rfl (by decide)).2.1).1, rfl⟩
  · exact ⟨_, _, wb', wb', rfl⟩
  · exact (no_not h).elim
end Go.Proofs.YtijnlnmoellbaaaGreat.Ab
