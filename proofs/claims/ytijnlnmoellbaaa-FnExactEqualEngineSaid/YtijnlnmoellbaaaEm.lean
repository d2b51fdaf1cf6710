/- The walk of the law FnExactEqualEngine: from its description over data. -/
import Derived.Test.YtijnlnmoellbaaaEl
namespace Go.Proofs.Ytijnlnmoellbaaa
open Go.ChangeShapes Go.WideShapes Go.ChangeAt Go.RowKit Go.Joins Ab
set_option linter.unusedVariables false
set_option maxRecDepth 100000
theorem flatFnExactEqualEngine : [46, 40, 38, 181, 3, 9, 43, 41, 183, 33, 95, 93, 176, 142, 139, 73, 140, 218, 103, 216, 228, 44, 144, 4].all (flatOk Try.prog T [46, 40, 38, 181, 3, 9, 43, 41, 183, 33, 95, 93, 176, 142, 139, 73, 140, 218, 103, 216, 228, 44, 144, 4]) = true := by kernel_rfl
theorem walkFnExactEqualEngine {H : Type} {enc : TypeId × Value → H} (W : World) {base : Nat} {v0 : Value} {d0 : DataW H} {p0 : List MemPlace} (k0 : Value.okWide Try.prog W .any base 46 v0) (h0 : DataW.Trod enc Try.prog W 0 (fun _ => true) true 46 v0 d0 p0) {v1 : Value} {d1 : DataW H} {p1 : List MemPlace} (k1 : Value.okWide Try.prog W .any base 46 v1) (h1 : DataW.Trod enc Try.prog W 0 (fun _ => true) true 46 v1 d1 p1) :
    Calls Try.prog 5 #[v0, v1] W fun e W' => e = .returned (.bool true) ∧ Below W.heap.size W W' := by
  obtain ⟨cs0, rfl, _⟩ := okWide_struct Try.underlying46 k0
  obtain ⟨m0, t0⟩ := h0
  obtain ⟨ty0, r0, e0, w0⟩ := row_of_trod tabT flatFnExactEqualEngine m0 46 _ _ (by decide) t0
  obtain rfl : ⟨true, [.l 181, .i .i64, .i .i64, .l 183, .l 95, .l 144, .i .i64, .i .i64, .i .i64], _, _, _, _⟩ = ty0 := Option.some.inj e0
  have g0 : RowR T W (fun _ => False) [.l 181, .i .i64, .i .i64, .l 183, .l 95, .l 144, .i .i64, .i .i64, .i .i64] cs0.toList r0 := w0
  obtain ⟨cs1, rfl, _⟩ := okWide_struct Try.underlying46 k1
  obtain ⟨m1, t1⟩ := h1
  obtain ⟨ty1, r1, e1, w1⟩ := row_of_trod tabT flatFnExactEqualEngine m1 46 _ _ (by decide) t1
  obtain rfl : ⟨true, [.l 181, .i .i64, .i .i64, .l 183, .l 95, .l 144, .i .i64, .i .i64, .i .i64], _, _, _, _⟩ = ty1 := Option.some.inj e1
  have g1 : RowR T W (fun _ => False) [.l 181, .i .i64, .i .i64, .l 183, .l 95, .l 144, .i .i64, .i .i64, .i .i64] cs1.toList r1 := w1
  refine (ok5.ok W (fun _ => False) [argG [.l 181, .i .i64, .i .i64, .l 183, .l 95, .l 144, .i .i64, .i .i64, .i .i64] r0, argG [.l 181, .i .i64, .i .i64, .l 183, .l 95, .l 144, .i .i64, .i .i64, .i .i64] r1] [.agg cs0, .agg cs1] (fun b h => h.elim) (ArgsR.cons g0.argG (ArgsR.cons g1.argG ArgsR.nil)) ⟨r0, r1, g0.wf, g1.wf, rfl⟩).mono fun e W' ⟨v, bk, he, hb, hr, _⟩ => ?_
  obtain ⟨c, hc, hv⟩ := hr
  obtain rfl : CV.b true = c := by simpa using hc
  subst he
  refine ⟨?_, hb⟩
  have hv : v = .bool true := hv
  rw [hv]
end Go.Proofs.Ytijnlnmoellbaaa
