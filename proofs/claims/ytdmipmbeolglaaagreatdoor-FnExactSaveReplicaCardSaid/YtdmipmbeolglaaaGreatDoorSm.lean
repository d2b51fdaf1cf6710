/- The walk of the law SaveReplica: from its description over data. -/
import Derived.Test.YtdmipmbeolglaaaGreatDoorSl
namespace Go.Proofs.YtdmipmbeolglaaaGreatDoor
open Go.ChangeShapes Go.WideShapes Go.ChangeAt Go.RowKit Go.Joins Ab
set_option linter.unusedVariables false
set_option maxRecDepth 100000
theorem flatSaveReplica : [52, 3, 50, 29, 22, 26, 24, 9, 27, 102, 100, 97, 65, 98, 155, 153, 178].all (flatOk Tryz.prog T [52, 3, 50, 29, 22, 26, 24, 9, 27, 102, 100, 97, 65, 98, 155, 153, 178]) = true := by kernel_rfl
theorem walkSaveReplica {H : Type} {enc : TypeId × Value → H} (W : World) {base : Nat} (hL : GlR T W (fun _ => False)) {v0 : Value} {d0 : DataW H} {p0 : List MemPlace} (k0 : Value.okWide Tryz.prog W .any base 52 v0) (h0 : DataW.Trod enc Tryz.prog W 0 (fun _ => true) true 52 v0 d0 p0) :
    Calls Tryz.prog 6 #[v0] W fun e W' => e = .returned (.bool true) ∧ Below W.heap.size W W' := by
  obtain ⟨cs0, rfl, _⟩ := okWide_struct Tryz.underlying52 k0
  obtain ⟨m0, t0⟩ := h0
  obtain ⟨ty0, r0, e0, w0⟩ := row_of_trod tabT flatSaveReplica m0 52 _ _ (by decide) t0
  obtain rfl : ⟨true, [.i .i64, .l 29], _, _, _, _⟩ = ty0 := Option.some.inj e0
  have g0 : RowR T W (fun _ => False) [.i .i64, .l 29] cs0.toList r0 := w0
  refine (ok6.ok rfl W (fun _ => False) [argG [.i .i64, .l 29] r0] [.agg cs0] (fun b h => h.elim) (ArgsR.cons g0.argG ArgsR.nil) hL ⟨r0, g0.wf, rfl⟩).mono fun e W' ⟨v, bk, he, hb, hr, _⟩ => ?_
  obtain ⟨c, hc, hv⟩ := hr
  obtain rfl : CV.b true = c := by simpa using hc
  subst he
  refine ⟨?_, hb⟩
  have hv : v = .bool true := hv
  rw [hv]
end Go.Proofs.YtdmipmbeolglaaaGreatDoor
