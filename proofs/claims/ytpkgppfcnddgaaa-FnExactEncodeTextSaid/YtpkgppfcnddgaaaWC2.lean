/- The law of EncodeText, walked. -/
import Derived.Test.YtpkgppfcnddgaaaWC
namespace Go.Proofs.Ytpkgppfcnddgaaa
open Go.ChangeShapes Go.WideShapes Go.ChangeAt Go.RowKit

theorem encLaw (s : ByteArray) (w : World) (hm : s.size ≤ maxLen) : Calls Try.prog 7 #[.string s] w fun e w' => e = .returned (.bool true) ∧ Below w.heap.size w w' := by
  unfold maxLen at hm
  by_cases hs : s.size ≤ 1048576
  · cases hne : s.toList.isEmpty
    · go_enter Try.func7, Try.ntmps7
      go_wp2_with fail
      refine (specEnc_full _ _ hs hne).mono ?_; rintro e w1 ⟨rfl, hb1⟩
      go_wp2_with fail
      refine (implEnc_full _ _ hs hne).mono ?_; rintro e w2 ⟨rfl, hb2⟩
      go_wp2
      go_ret
      exact ⟨rfl, stepB hb1 hb2⟩
    · go_enter Try.func7, Try.ntmps7
      go_wp2_with fail
      refine (specEnc_empty _ _ hne).mono ?_; rintro e w1 ⟨rfl, hb1⟩
      go_wp2_with fail
      refine (implEnc_empty _ _ hne).mono ?_; rintro e w2 ⟨rfl, hb2⟩
      go_wp2
      go_ret
      exact ⟨rfl, stepB hb1 hb2⟩
  · go_enter Try.func7, Try.ntmps7
    go_wp2
    go_ret
    exact ⟨rfl, Below.refl _ _⟩
theorem walkFnExactEncodeText {H : Type} {enc : TypeId × Value → H} (W : World) {base : Nat} {v0 : Value} {d0 : DataW H} {p0 : List MemPlace} (k0 : Value.okWide Try.prog W .any base 9 v0)
    (h0 : DataW.Trod enc Try.prog W 0 (fun _ => true) true 9 v0 d0 p0) : Calls Try.prog 7 #[v0] W fun e W' => e = .returned (.bool true) ∧ Below W.heap.size W W' := by
  obtain ⟨s, rfl, rfl, rfl, hs⟩ := Go.ChangeMaps.open_string Try.underlying9 k0 h0
  exact encLaw s W hs
end Go.Proofs.Ytpkgppfcnddgaaa
