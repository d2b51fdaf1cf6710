/- The walk of the law FnExactEqualSession: from its description over data. -/
import Derived.Test.YtijnlnmoellbaaaGreatEl
namespace Go.Proofs.YtijnlnmoellbaaaGreat
open Go.ChangeShapes Go.WideShapes Go.ChangeAt Go.RowKit Go.Joins Ab
set_option linter.unusedVariables false
set_option maxRecDepth 100000
theorem flatFnExactEqualSession : [36, 31, 24, 22, 176, 3, 9, 27, 25, 178, 28, 139, 137, 210, 144, 141, 100, 142, 234, 98, 232, 254, 29, 146, 4, 34, 32, 150, 148, 216].all (flatOk Tryz.prog T [36, 31, 24, 22, 176, 3, 9, 27, 25, 178, 28, 139, 137, 210, 144, 141, 100, 142, 234, 98, 232, 254, 29, 146, 4, 34, 32, 150, 148, 216]) = true := by kernel_rfl
theorem walkFnExactEqualSession {H : Type} {enc : TypeId × Value → H} (W : World) {base : Nat} {v0 : Value} {d0 : DataW H} {p0 : List MemPlace} (k0 : Value.okWide Tryz.prog W .any base 36 v0) (h0 : DataW.Trod enc Tryz.prog W 0 (fun _ => true) true 36 v0 d0 p0) {v1 : Value} {d1 : DataW H} {p1 : List MemPlace} (k1 : Value.okWide Tryz.prog W .any base 36 v1) (h1 : DataW.Trod enc Tryz.prog W 0 (fun _ => true) true 36 v1 d1 p1) :
    Calls Tryz.prog 3 #[v0, v1] W fun e W' => e = .returned (.bool true) ∧ Below W.heap.size W W' := by
  obtain ⟨cs0, rfl, _⟩ := okWide_struct Tryz.underlying36 k0
  obtain ⟨m0, t0⟩ := h0
  obtain ⟨ty0, r0, e0, w0⟩ := row_of_trod tabT flatFnExactEqualSession m0 36 _ _ (by decide) t0
  obtain rfl : ⟨true, [.l 176, .i .i64, .i .i64, .l 178, .l 139, .l 146, .i .i64, .i .i64, .i .i64, .l 176, .l 150, .i .i64], _, _, _, _⟩ = ty0 := Option.some.inj e0
  have g0 : RowR T W (fun _ => False) [.l 176, .i .i64, .i .i64, .l 178, .l 139, .l 146, .i .i64, .i .i64, .i .i64, .l 176, .l 150, .i .i64] cs0.toList r0 := w0
  obtain ⟨cs1, rfl, _⟩ := okWide_struct Tryz.underlying36 k1
  obtain ⟨m1, t1⟩ := h1
  obtain ⟨ty1, r1, e1, w1⟩ := row_of_trod tabT flatFnExactEqualSession m1 36 _ _ (by decide) t1
  obtain rfl : ⟨true, [.l 176, .i .i64, .i .i64, .l 178, .l 139, .l 146, .i .i64, .i .i64, .i .i64, .l 176, .l 150, .i .i64], _, _, _, _⟩ = ty1 := Option.some.inj e1
  have g1 : RowR T W (fun _ => False) [.l 176, .i .i64, .i .i64, .l 178, .l 139, .l 146, .i .i64, .i .i64, .i .i64, .l 176, .l 150, .i .i64] cs1.toList r1 := w1
  refine (ok3.ok rfl W (fun _ => False) [argG [.l 176, .i .i64, .i .i64, .l 178, .l 139, .l 146, .i .i64, .i .i64, .i .i64, .l 176, .l 150, .i .i64] r0, argG [.l 176, .i .i64, .i .i64, .l 178, .l 139, .l 146, .i .i64, .i .i64, .i .i64, .l 176, .l 150, .i .i64] r1] [.agg cs0, .agg cs1] (fun b h => h.elim) (ArgsR.cons g0.argG (ArgsR.cons g1.argG ArgsR.nil)) ⟨r0, r1, g0.wf, g1.wf, rfl⟩).mono fun e W' ⟨v, bk, he, hb, hr, _⟩ => ?_
  obtain ⟨c, hc, hv⟩ := hr
  obtain rfl : CV.b true = c := by simpa using hc
  subst he
  refine ⟨?_, hb⟩
  have hv : v = .bool true := hv
  rw [hv]
end Go.Proofs.YtijnlnmoellbaaaGreat
