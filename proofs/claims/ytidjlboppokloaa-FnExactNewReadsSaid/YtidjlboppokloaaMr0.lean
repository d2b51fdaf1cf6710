/- Results that own all that they lead to: what every seat shares. No program in sight. -/
import Derived.Test.YtidjlboppokloaaMt
import Derived.Test.YtidjlboppokloaaEd
import Derived.Test.YtidjlboppokloaaTs
namespace Go.Proofs.Ytidjlboppokloaa.Ab
open Go.RowKit
set_option linter.unusedVariables false
set_option maxRecDepth 100000
/-- The table where owned slices own all that they lead to. -/
noncomputable abbrev Td : Tab := T.on true
theorem tabTd : TabOk Try.prog Td := TabOk.on true tabT
def ofO : CT → D → CV
  | .l e, d => .sl true e d.rows
  | ct, d => ofD ct d
def rowO (cts : List CT) (row : List D) : List CV := cts.zipIdx.map fun (ct, j) => ofO ct (row.getD j default)
theorem d_ofO (ct : CT) (d : D) : (ofO ct d).d = (ofD ct d).d := by cases ct <;> rfl
theorem FOk.lends {P : Program} {T : Tab} {f : FuncId} {s : FSpec} (h : FOk P T f s) : FOk P T f { s with nr := true } := ⟨h.call, h.okb, h.ok, h.okn⟩
theorem envD_nil {P : Program} : EnvOk P Td (envL []) := fun f s h => by cases h
theorem envD_cons {P : Program} {g : FuncId} {s : FSpec} {l : List (FuncId × FSpec)} (h : FOk P Td g s) (hl : EnvOk P Td (envL l)) : EnvOk P Td (envL ((g, s) :: l)) := fun f s' hf => by
  simp only [envL] at hf
  split at hf
  · rename_i e; subst e; obtain rfl := Option.some.inj hf; exact h
  · exact hl f s' hf
/-- Constant arguments, a constant result. -/
def spC (a : List SV) (r : SV) : FSpec where
  pre x := x = a
  res _ := r
end Go.Proofs.Ytidjlboppokloaa.Ab
