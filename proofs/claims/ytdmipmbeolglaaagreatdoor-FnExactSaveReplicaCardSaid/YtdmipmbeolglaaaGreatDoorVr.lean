/- The listed variables of this seat (two tables of bits, powers of ten, the errors' names): what a walk gets of them, and that a call that leaves old memory alone leaves them as they were. No conditions of ours. -/
import Derived.Test.YtdmipmbeolglaaaGreatDoorCards
import Derived.Test.YtdmipmbeolglaaaGreatDoorTie
import Derived.Test.YtdmipmbeolglaaaGreatDoorFrame
import Derived.Test.YtdmipmbeolglaaaGreatDoorGl
import Derived.Test.YtdmipmbeolglaaaGreatDoorTab
import Derived.Deep.DeepHandedRow
import Derived.Deep.DeepWitnessRowRef
import Derived.LaidLaws
namespace Go.Proofs.YtdmipmbeolglaaaGreatDoor
open Go.ChangeShapes Go.WideShapes Go.ChangeAt Go.RowKit Ab
set_option linter.unusedVariables false
set_option maxRecDepth 100000
/-- A variable that reads as d reads as d behind a call that leaves old memory alone. -/
theorem vars_kept {H : Type} {enc : TypeId × Value → H} {P : Program} {n : String} {g t e : Nat} (hl : laidOutB P = true) (hg : P.globalNamed n = some g) (ht : (P.globals[g]?).map (·.type) = some t) (hu : P.underlying t = some (.slice e)) (hr : P.readableRec t = true) (hrow : t < P.types.size)
    {W W' : World} {gs : List (DataW H)} {q : List MemPlace} (h : DataW.TrodVars enc P W (fun _ => true) [n] gs q) (hb : Below W.heap.size W W') : ∃ q', DataW.TrodVars enc P W' (fun b => decide (b < W.heap.size)) [n] gs q' := by
  obtain ⟨g', t', cs, fuel, d, p, rfl, h1, h2, h3, h4, rfl⟩ := trodVars_one h
  obtain rfl := Option.some.inj (hg.symm.trans h1)
  obtain rfl := Option.some.inj (ht.symm.trans h2)
  have one : ∃ v, cs.toList = [v] ∧ v.cells.toList = [v] := by
    rcases DataW.trod_slice hu h4 with ⟨e1, _⟩ | ⟨a, len, cap, _, _, _, _, e1, _⟩
    · exact ⟨_, e1, rfl⟩
    · exact ⟨_, e1, rfl⟩
  obtain ⟨v, e1, e2⟩ := one
  have hcs : cs = #[v] := by apply Array.ext'; simpa using e1
  subst hcs
  have lt : ∀ x ∈ p, x.block < W.heap.size := DataW.trod_lt fuel _ _ _ h4
  obtain ⟨m, hm⟩ := Below.trod hl hr hrow ⟨fuel, by rw [e2]; exact h4⟩ hb lt
  rw [e2] at hm
  have hB : g < W.heap.size := by
    unfold World.var? at h3
    rw [hg] at h3
    simp only [Option.bind_some] at h3
    cases hh : W.heap[g]? with
    | none => rw [hh] at h3; cases h3
    | some o => exact (Array.getElem?_eq_some_iff.1 hh).1
  have h3' : W'.var? P n = some #[v] := by
    unfold World.var? at h3 ⊢
    rw [hg] at h3 ⊢
    simp only [Option.bind_some] at h3 ⊢
    rw [hb.block g hB]
    exact h3
  exact ⟨_, trodVars_mk1 hg ht h3' hm⟩
theorem gNames : Tryz.prog.globalNamed "loop.example/g00510/impl.errorNames" = some 0 := by kernel_rfl
theorem gNamesType : (Tryz.prog.globals[0]?).map (·.type) = some 65 := by kernel_rfl
theorem gPow : Tryz.prog.globalNamed "internal/strconv.uint64pow10" = some 2 := by kernel_rfl
theorem gPowType : (Tryz.prog.globals[2]?).map (·.type) = some 174 := by kernel_rfl
theorem names_kept {H : Type} {enc : TypeId × Value → H} {W W' : World} {gs : List (DataW H)} {q : List MemPlace} (h : DataW.TrodVars enc Tryz.prog W (fun _ => true) ["loop.example/g00510/impl.errorNames"] gs q) (hb : Below W.heap.size W W') : ∃ q', DataW.TrodVars enc Tryz.prog W' (fun b => decide (b < W.heap.size)) ["loop.example/g00510/impl.errorNames"] gs q' :=
  vars_kept laidOut gNames gNamesType Tryz.underlying65 (by kernel_rfl) (of_decide_eq_true (by kernel_rfl)) h hb
abbrev pows : List Int := [1, 10, 100, 1000, 10000, 100000, 1000000, 10000000, 100000000, 1000000000, 10000000000, 100000000000, 1000000000000, 10000000000000, 100000000000000, 1000000000000000, 10000000000000000, 100000000000000000, 1000000000000000000, 10000000000000000000]
abbrev errNames : List (List UInt8) := [[109, 105, 115, 115, 105, 110, 103], [100, 117, 112, 108, 105, 99, 97, 116, 101], [99, 121, 99, 108, 101], [116, 121, 112, 101], [114, 97, 110, 103, 101], [108, 105, 109, 105, 116], [99, 111, 108, 117, 109, 110], [115, 121, 110, 116, 97, 120]]
abbrev laidRows : List (String × DataW Unit) := [("math/bits.deBruijn32tab", Rows.laid_math_bits_deBruijn32tab), ("math/bits.deBruijn64tab", Rows.laid_math_bits_deBruijn64tab), ("internal/strconv.uint64pow10", Rows.laid_internal_strconv_uint64pow10), ("loop.example/g00510/impl.errorNames", Rows.laid_loop_example_g00510_impl_errorNames)]
theorem glOf {W : World} (h : laidMetH Tryz.prog laidRows W) : GlR T W (fun _ => False) := by
  have h' : laidMet Tryz.prog laidRows W := h
  obtain ⟨ps, ⟨g0, t0, cs0, f0, p0, q0, hg0, ht0, hv0, hd0, ⟨g1, t1, cs1, f1, p1, q1, hg1, ht1, hv1, hd1, ⟨g2, t2, cs2, f2, p2, q2, hg2, ht2, hv2, hd2, ⟨g3, t3, cs3, f3, p3, q3, hg3, ht3, hv3, hd3, hq3, e3⟩, e2⟩, e1⟩, e0⟩, hnd, hrows⟩ := h'
  obtain rfl := Option.some.inj (gPow.symm.trans hg2)
  obtain rfl := Option.some.inj (gPowType.symm.trans ht2)
  obtain rfl := Option.some.inj (gNames.symm.trans hg3)
  obtain rfl := Option.some.inj (gNamesType.symm.trans ht3)
  have c2 := Lib.cells_of_tab (k := .u64) (zs := pows) Tryz.underlying174 Tryz.underlying164 (by kernel_rfl) (by kernel_rfl) hd2
  have v2 : Lib.TabIs Tryz.prog W "internal/strconv.uint64pow10" .u64 pows := by
    unfold Lib.TabIs
    rw [hv2]
    refine congrArg some ?_
    apply Array.ext'
    simpa using c2
  refine GlAt.all (X := fun _ => False) fun p hp => ?_
  rcases List.mem_cons.1 hp with rfl | hp
  · exact GlAt.of_texts tabT (names := errNames) gNames Tryz.underlying65 Tryz.underlying9 rfl rfl (by decide) hv3 hd3
  rcases List.mem_cons.1 hp with rfl | hp
  · exact GlAt.of_tab gPow v2 (show ∀ z ∈ pows, IntKind.min .u64 ≤ z ∧ z ≤ IntKind.max .u64 by decide)
  cases hp
end Go.Proofs.YtdmipmbeolglaaaGreatDoor
