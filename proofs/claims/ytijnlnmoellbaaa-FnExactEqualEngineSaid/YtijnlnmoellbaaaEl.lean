/- The law, over data: printed by a program of this claim. -/
import Derived.Test.YtijnlnmoellbaaaLw
namespace Go.Proofs.Ytijnlnmoellbaaa.Ab
open Go.RowKit
set_option linter.unusedVariables false
set_option linter.unusedSimpArgs false
set_option maxRecDepth 100000
set_option maxHeartbeats 1000000
def isoL5 : List (TypeId × TypeId) := [(181, 146), (183, 113), (95, 32), (176, 78), (142, 76), (9, 9), (218, 172), (3, 3), (228, 192), (144, 105)]
theorem iso_ok5 : isoOk T isoL5 = true := by kernel_rfl
/-- laws.FnExactEqualEngine -/
theorem ok5 : FOk Try.prog T 5 (lawG2 T [.l 181, .i .i64, .i .i64, .l 183, .l 95, .l 144, .i .i64, .i .i64, .i .i64]) := by
  refine fok (env := envL [(18, (szG [.l 181, .i .i64, .i .i64, .l 183, .l 95, .l 144, .i .i64, .i .i64, .i .i64])), (20, (toG T [.l 181, .i .i64, .i .i64, .l 183, .l 95, .l 144, .i .i64, .i .i64, .i .i64] [.l 146, .i .i64, .i .i64, .l 113, .l 32, .l 105, .i .i64, .i .i64, .i .i64])), (19, (eqG [.l 146, .i .i64, .i .i64, .l 113, .l 32, .l 105, .i .i64, .i .i64, .i .i64])), (21, (eqG [.l 146, .i .i64, .i .i64, .l 113, .l 32, .l 105, .i .i64, .i .i64, .i .i64])), (22, (eqG [.l 146, .i .i64, .i .i64, .l 113, .l 32, .l 105, .i .i64, .i .i64, .i .i64]))]) (N := 45) tabT (envL_cons ok18 (envL_cons ok20 (envL_cons ok19 (envL_cons ok21 (envL_cons ok22 envL_nil))))) mixed Try.func5 rfl Try.call5 Try.ntmps5 ?_
  rintro args ⟨a, b, wa, wb, rfl⟩ hwf
  have wa' := (wa.iso iso_ok5 (cts' := [.l 146, .i .i64, .i .i64, .l 113, .l 32, .l 105, .i .i64, .i .i64, .i .i64]) rfl)
  have wb' := (wb.iso iso_ok5 (cts' := [.l 146, .i .i64, .i .i64, .l 113, .l 32, .l 105, .i .i64, .i .i64, .i .i64]) rfl)
  rw [← csD_rowC wa] at wa'
  rw [← csD_rowC wb] at wb'
  refine ⟨by simp, ?_⟩
  clear hwf
  rw [Try.results5]
  repeat' first
    | (refine And.intro ?_ ?_)
    | (intro h; cases h)
    | (intro h; rw [h])
    | (intro h)
  all_goals first
    | (show lowEdges _ = true; kernel_rfl) | (show logOk _ _ = true; kernel_rfl) | trivial | exact Or.inr rfl | exact Or.inl rfl
    | skip
  · exact ⟨_, _, wa, by decide, by decide, rfl⟩
  · have e1 := szB (r' := csD (rowC [.l 181, .i .i64, .i .i64, .l 183, .l 95, .l 144, .i .i64, .i .i64, .i .i64] a)) h rfl (by decide)
    exact ⟨_, _, wb, e1.2.2, e1.2.1, rfl⟩
  · rename_i h1
    exact ⟨_, wa, (szB (r' := csD (rowC [.l 181, .i .i64, .i .i64, .l 183, .l 95, .l 144, .i .i64, .i .i64, .i .i64] a)) h1 rfl (by decide)).1, rfl⟩
  · rename_i h1
    exact ⟨_, wb, (szB (r' := csD (rowC [.l 181, .i .i64, .i .i64, .l 183, .l 95, .l 144, .i .i64, .i .i64, .i .i64] b)) h rfl (szB (r' := csD (rowC [.l 181, .i .i64, .i .i64, .l 183, .l 95, .l 144, .i .i64, .i .i64, .i .i64] a)) h1 rfl (by decide)).2.1).1, rfl⟩
  · exact ⟨_, _, wa', wb', rfl⟩
  · rename_i h1
    exact ⟨_, wa, (szB (r' := csD (rowC [.l 181, .i .i64, .i .i64, .l 183, .l 95, .l 144, .i .i64, .i .i64, .i .i64] a)) h1 rfl (by decide)).1, rfl⟩
  · rename_i h1
    exact ⟨_, wb, (szB (r' := csD (rowC [.l 181, .i .i64, .i .i64, .l 183, .l 95, .l 144, .i .i64, .i .i64, .i .i64] b)) h rfl (szB (r' := csD (rowC [.l 181, .i .i64, .i .i64, .l 183, .l 95, .l 144, .i .i64, .i .i64, .i .i64] a)) h1 rfl (by decide)).2.1).1, rfl⟩
  · exact ⟨_, _, wa', wb', rfl⟩
  · exact (no_bne h).elim
  · rename_i h1 h2
    exact ⟨_, wa, (szB (r' := csD (rowC [.l 181, .i .i64, .i .i64, .l 183, .l 95, .l 144, .i .i64, .i .i64, .i .i64] a)) h1 rfl (by decide)).1, rfl⟩
  · exact ⟨_, _, wa', wa', rfl⟩
  · exact (no_not h).elim
  · rename_i h1 h2 h3
    exact ⟨_, wb, (szB (r' := csD (rowC [.l 181, .i .i64, .i .i64, .l 183, .l 95, .l 144, .i .i64, .i .i64, .i .i64] b)) h2 rfl (szB (r' := csD (rowC [.l 181, .i .i64, .i .i64, .l 183, .l 95, .l 144, .i .i64, .i .i64, .i .i64] a)) h1 rfl (by decide)).2.1).1, rfl⟩
  · exact ⟨_, _, wb', wb', rfl⟩
  · exact (no_not h).elim
end Go.Proofs.Ytijnlnmoellbaaa.Ab
