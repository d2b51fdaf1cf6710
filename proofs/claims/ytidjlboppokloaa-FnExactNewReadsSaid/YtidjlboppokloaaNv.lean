/- The walk of the law FnExactNewReads. -/
import Derived.Test.YtidjlboppokloaaNy
import Derived.Test.YtidjlboppokloaaMq
import Derived.Test.YtidjlboppokloaaBr
namespace Go.Proofs.Ytidjlboppokloaa
open Go.ChangeShapes Go.WideShapes Go.ChangeAt Go.RowKit Ab
set_option linter.unusedVariables false
set_option maxRecDepth 100000
theorem flatNR : [22, 51, 3, 49, 110, 9, 108, 105, 57, 106, 162, 111, 160, 172].all (flatOk Try.prog T [22, 51, 3, 49, 110, 9, 108, 105, 57, 106, 162, 111, 160, 172]) = true := by kernel_rfl
theorem Ab.RowR.one {w : World} {X : Nat → Prop} {e : TypeId} {v : Value} {row : List D} (h : RowR T w X [.l e] [v] row) : RdR T w X (.l e) v (.l (row.getD 0 default).rows) := by
  obtain ⟨c, hc, hv⟩ := h.argS
  obtain rfl := List.singleton_inj.1 hc
  exact hv
theorem walkFnExactNewReads {H : Type} {enc : TypeId × Value → H} (W : World) {base : Nat} {v0 v1 : Value} {d0 d1 : DataW H} {p0 p1 : List MemPlace} (k0 : Value.okWide Try.prog W .any base 22 v0) (h0 : DataW.Trod enc Try.prog W 0 (fun _ => true) true 22 v0 d0 p0) (k1 : Value.okWide Try.prog W .any base 22 v1) (h1 : DataW.Trod enc Try.prog W 0 (fun _ => true) true 22 v1 d1 p1) :
    Calls Try.prog 3 #[v0, v1] W fun e W' => e = .returned (.bool true) ∧ Below W.heap.size W W' := by
  obtain ⟨a0, n0, c0, rfl⟩ := okWide_slice Try.underlying22 k0
  obtain ⟨a1, n1, c1, rfl⟩ := okWide_slice Try.underlying22 k1
  obtain ⟨m0, t0⟩ := h0
  obtain ⟨m1, t1⟩ := h1
  obtain ⟨ty0, r0, e0, w0⟩ := row_of_trod tabT flatNR m0 22 _ _ (by decide) t0
  obtain rfl : ⟨false, [.l 51], _, _, _, _⟩ = ty0 := Option.some.inj e0
  obtain ⟨ty1, r1, e1, w1⟩ := row_of_trod tabT flatNR m1 22 _ _ (by decide) t1
  obtain rfl : ⟨false, [.l 51], _, _, _, _⟩ = ty1 := Option.some.inj e1
  have g0 : RowR T W (fun _ => False) [.l 51] [.slice a0 n0 c0] r0 := w0
  have g1 : RowR T W (fun _ => False) [.l 51] [.slice a1 n1 c1] r1 := w1
  exact lawNR _ Ab.ok48 W
    ⟨fun p hp => absurd (show p ∈ ([] : List _) from hp) List.not_mem_nil, fun p hp => absurd (show p ∈ ([] : List _) from hp) List.not_mem_nil⟩
    (Ab.RowR.one g0) (Ab.RowR.one g1)
end Go.Proofs.Ytidjlboppokloaa
