/- The walk of the law FnGoTo: from its description over data. The statement on FnGoTo: for every input the law returns true, and each argument reads as before. No conditions of ours. -/
import Derived.Test.YtodddilaniojgaaGreatCGl
import Derived.Test.YtodddilaniojgaaGreatCNi
import Derived.Test.YtodddilaniojgaaGreatCFa
namespace Go.Proofs.YtodddilaniojgaaGreat
open Go.ChangeShapes Go.WideShapes Go.ChangeAt Go.RowKit Go.Joins Ab
set_option linter.unusedVariables false
set_option maxRecDepth 100000
theorem flatGoTo : [22, 5].all (flatOk Tryz.prog T [22, 5]) = true := by kernel_rfl
theorem walkFnGoTo {H : Type} {enc : TypeId × Value → H} (W : World) {base : Nat} {v0 : Value} {d0 : DataW H} {p0 : List MemPlace} (k0 : Value.okWide Tryz.prog W .any base 22 v0) (h0 : DataW.Trod enc Tryz.prog W 0 (fun _ => true) true 22 v0 d0 p0) :
    Calls Tryz.prog 4 #[v0] W fun e W' => e = .returned (.bool true) ∧ Below W.heap.size W W' := by
  obtain ⟨a, n, c, rfl⟩ := okWide_slice Tryz.underlying22 k0
  obtain ⟨m0, t0⟩ := h0
  obtain ⟨ty0, r0, e0, w0⟩ := row_of_trod tabT flatGoTo m0 22 _ _ (by decide) t0
  obtain rfl : ⟨false, [.l 5], _, _, _, _⟩ = ty0 := Option.some.inj e0
  have g0 : RowR T W (fun _ => False) [.l 5] [.slice a n c] r0 := w0
  refine (ok4.ok rfl W (fun _ => False) [argS 5 (r0.getD 0 default).rows] [.slice a n c] (fun b h => h.elim) (ArgsR.cons g0.argS ArgsR.nil) ⟨fun p hp => (List.not_mem_nil hp).elim, fun g hg => (List.not_mem_nil hg).elim⟩ ⟨_, rfl⟩).mono fun e W' ⟨v, bk, he, hb, hr, _⟩ => ?_
  obtain ⟨c', hc, hv⟩ := hr
  obtain rfl : CV.b true = c' := by simpa using hc
  subst he
  refine ⟨?_, hb⟩
  have hv : v = .bool true := hv
  rw [hv]
end Go.Proofs.YtodddilaniojgaaGreat
namespace Go.Proofs.YtodddilaniojgaaGreat.fnGoTo
open Go.ChangeShapes Go.WideShapes Go.ChangeAt Go.RowKit
set_option linter.unusedVariables false
set_option maxRecDepth 100000 in
theorem lifted (os : Os) (started : os.Started) (H : Type) (enc : TypeId × Value → H) :
    ReturnsInHanded {} Tryz.checked os 4 .any (Rows.fnGoToSpec.pre6 enc Tryz.prog Tryz.f4 Rows.fnGoToRow.domain false) (Rows.fnGoToSpec.post enc Tryz.prog Tryz.f4 false true false false) := by
  refine returnsInHanded_of_change (C := Tryz.checked) own started (by kernel_rfl) Tryz.func4
    (ChangeSpec.witness6 (enc := enc) (C := Tryz.checked) false ⟨#[], #[.slice none 0 0], []⟩ 8 (by kernel_rfl) (by kernel_rfl) (by kernel_rfl) (by kernel_rfl)) ?_
  intro W base args ds gs before hval0 hW hcnd _
  have hval : ∀ (j : Nat) t v, Tryz.f4.params[j]? = some t → args[j]? = some v → Value.okWide Tryz.prog W .any base t v := hval0
  have hW' := hW
  obtain ⟨p, q, hA0, hV, rfl, hfz, hnd⟩ := hW
  have hA : DataW.TrodAll enc Tryz.prog W 0 (fun _ => true) true Tryz.f4.params.toList args.toList ds p := hA0
  rw [Tryz.params4] at hA hval
  obtain ⟨v0, vs0, d0, ds0, p0, q0, hargs, rfl, rfl, h0, r0⟩ := trodAll_cons hA
  obtain ⟨rfl, rfl, rfl⟩ := trodAll_nil r0
  obtain rfl : args = #[v0] := by cases args; simp_all
  obtain ⟨rfl, rfl⟩ := trodVars_none hV
  have lt0 : ∀ x ∈ p0, x.block < W.heap.size := by obtain ⟨m, hm⟩ := h0; exact DataW.trod_lt m _ _ _ hm
  refine (walkFnGoTo W (hval 0 22 v0 rfl rfl) h0).mono fun e W' ⟨he, bel⟩ => ?_
  subst he
  exact ⟨_, rfl, _, _, _, [], _, [], hW', trodAll_mk1 (shut_bool Tryz.underlying4 _), (trodAll_cons_mk (Below.trod laidOut (by kernel_rfl) (of_decide_eq_true (by kernel_rfl)) h0 bel lt0) trodAll_mk0), rfl, bel.frame _, fun h => by cases h⟩
theorem over : Rows.fnGoToRow.holds Tryz.pinned (OpenSpec.ofChange Rows.fnGoToSpec) :=
  OpenClaim.holds_of_wide 4 Tryz.f4 rfl rfl rfl rfl rfl rfl rfl ⟨rfl, rfl, rfl, rfl, rfl⟩ rfl rfl rfl rfl rfl (by kernel_rfl) Tryz.func4 (by kernel_rfl)
    (of_decide_eq_true (by kernel_rfl)) (by unfold Func.isWrapper; first | (rw [if_pos (by decide +kernel)]; kernel_rfl) | (rw [if_neg (by decide +kernel)]; exact ⟨rfl, rfl⟩))
    (fun os started H enc _ => lifted os started H enc)
theorem proved : Rows.FnGoToSaid := over
end Go.Proofs.YtodddilaniojgaaGreat.fnGoTo
