/- The walk of the law FnNewReads: from its description over data. -/
import Derived.Test.YtfmjpoibfpgfbaaNm
import Derived.Test.YtfmjpoibfpgfbaaBr
namespace Go.Proofs.Ytfmjpoibfpgfbaa
open Go.ChangeShapes Go.WideShapes Go.ChangeAt Go.RowKit Go.Joins Ab
set_option linter.unusedVariables false
set_option maxRecDepth 100000
theorem flatNewReads : [22, 5].all (flatOk Try.prog T [22, 5]) = true := by kernel_rfl
theorem walkFnNewReads {H : Type} {enc : TypeId × Value → H} (W : World) {base : Nat} {v0 : Value} {d0 : DataW H} {p0 : List MemPlace} (k0 : Value.okWide Try.prog W .any base 22 v0) (h0 : DataW.Trod enc Try.prog W 0 (fun _ => true) true 22 v0 d0 p0) :
    Calls Try.prog 3 #[v0] W fun e W' => e = .returned (.bool true) ∧ Below W.heap.size W W' := by
  obtain ⟨a, n, c, rfl⟩ := okWide_slice Try.underlying22 k0
  obtain ⟨m0, t0⟩ := h0
  obtain ⟨ty0, r0, e0, w0⟩ := row_of_trod tabT flatNewReads m0 22 _ _ (by decide) t0
  obtain rfl : ⟨false, [.l 5], _, _, _, _⟩ = ty0 := Option.some.inj e0
  have g0 : RowR T W (fun _ => False) [.l 5] [.slice a n c] r0 := w0
  refine (ok3.ok rfl W (fun _ => False) [argS 5 (r0.getD 0 default).rows] [.slice a n c] (fun b h => h.elim) (ArgsR.cons g0.argS ArgsR.nil) (fun p hp => by cases hp) ⟨_, rfl⟩).mono fun e W' ⟨v, bk, he, hb, hr, _⟩ => ?_
  obtain ⟨c', hc, hv⟩ := hr
  obtain rfl : CV.b true = c' := by simpa using hc
  subst he
  refine ⟨?_, hb⟩
  have hv : v = .bool true := hv
  rw [hv]
end Go.Proofs.Ytfmjpoibfpgfbaa
