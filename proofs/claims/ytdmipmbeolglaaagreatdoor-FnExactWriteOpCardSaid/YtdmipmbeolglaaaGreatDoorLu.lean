/- The walk of the law WriteOp: from its description over data. -/
import Derived.Test.YtdmipmbeolglaaaGreatDoorLt
namespace Go.Proofs.YtdmipmbeolglaaaGreatDoor
open Go.ChangeShapes Go.WideShapes Go.ChangeAt Go.RowKit Go.Joins Ab
set_option linter.unusedVariables false
set_option maxRecDepth 100000
theorem flatWriteOp : [42, 9, 3, 29, 22, 26, 24, 27, 102, 100, 97, 65, 98, 155, 153, 178].all (flatOk Tryz.prog T [42, 9, 3, 29, 22, 26, 24, 27, 102, 100, 97, 65, 98, 155, 153, 178]) = true := by kernel_rfl
theorem walkWriteOp {H : Type} {enc : TypeId × Value → H} (W : World) {base : Nat} (hL : GlR T W (fun _ => False)) {v0 : Value} {d0 : DataW H} {p0 : List MemPlace} (k0 : Value.okWide Tryz.prog W .any base 42 v0) (h0 : DataW.Trod enc Tryz.prog W 0 (fun _ => true) true 42 v0 d0 p0) {v1 : Value} {d1 : DataW H} {p1 : List MemPlace} (k1 : Value.okWide Tryz.prog W .any base 29 v1) (h1 : DataW.Trod enc Tryz.prog W 0 (fun _ => true) true 29 v1 d1 p1) :
    Calls Tryz.prog 5 #[v0, v1] W fun e W' => e = .returned (.bool true) ∧ Below W.heap.size W W' := by
  obtain ⟨cs0, rfl, _⟩ := okWide_struct Tryz.underlying42 k0
  obtain ⟨m0, t0⟩ := h0
  obtain ⟨ty0, r0, e0, w0⟩ := row_of_trod tabT flatWriteOp m0 42 _ _ (by decide) t0
  obtain rfl : ⟨true, [.s, .i .i64], _, _, _, _⟩ = ty0 := Option.some.inj e0
  have g0 : RowR T W (fun _ => False) [.s, .i .i64] cs0.toList r0 := w0
  obtain ⟨cs1, rfl, _⟩ := okWide_struct Tryz.underlying29 k1
  obtain ⟨m1, t1⟩ := h1
  obtain ⟨ty1, r1, e1, w1⟩ := row_of_trod tabT flatWriteOp m1 29 _ _ (by decide) t1
  obtain rfl : ⟨true, [.i .i64, .i .i64, .i .i64, .l 3, .i .i64, .i .i64, .i .i64, .i .i64, .i .i64, .s, .s, .i .i64, .s, .s, .i .i64, .i .i64, .l 102], _, _, _, _⟩ = ty1 := Option.some.inj e1
  have g1 : RowR T W (fun _ => False) [.i .i64, .i .i64, .i .i64, .l 3, .i .i64, .i .i64, .i .i64, .i .i64, .i .i64, .s, .s, .i .i64, .s, .s, .i .i64, .i .i64, .l 102] cs1.toList r1 := w1
  refine (ok5.ok rfl W (fun _ => False) [argG [.s, .i .i64] r0, argG [.i .i64, .i .i64, .i .i64, .l 3, .i .i64, .i .i64, .i .i64, .i .i64, .i .i64, .s, .s, .i .i64, .s, .s, .i .i64, .i .i64, .l 102] r1] [.agg cs0, .agg cs1] (fun b h => h.elim) (ArgsR.cons g0.argG (ArgsR.cons g1.argG ArgsR.nil)) hL ⟨r0, r1, g0.wf, g1.wf, rfl⟩).mono fun e W' ⟨v, bk, he, hb, hr, _⟩ => ?_
  obtain ⟨c, hc, hv⟩ := hr
  obtain rfl : CV.b true = c := by simpa using hc
  subst he
  refine ⟨?_, hb⟩
  have hv : v = .bool true := hv
  rw [hv]
end Go.Proofs.YtdmipmbeolglaaaGreatDoor
