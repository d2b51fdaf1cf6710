/- Descriptions of checks of texts, lists and values. No program in sight. -/
import Derived.Test.YtaecbmjmcpdgdaaGreatCYa
namespace Go.Proofs.YtaecbmjmcpdgdaaGreat.Ab
open Go.RowKit
set_option linter.unusedVariables false
variable {T : Tab}
theorem wrapN {i n : Nat} (hi : i < n) (hn : n ≤ maxLen) : IntKind.i64.wrap ((i : Int) + 1) = ((i + 1 : Nat) : Int) := by
  simp only [maxLen] at hn
  rw [IntKind.wrap_i64]; omega
theorem ltN {i n : Nat} (h : decide ((i : Int) < (n : Int)) = true) : i < n := by have := of_decide_eq_true h; omega
theorem nltN {i n : Nat} (h : decide ((i : Int) < (n : Int)) = false) : ¬ i < n := by have := of_decide_eq_false h; omega
theorem nolt (P : Nat → Prop) : ∀ j, j < 0 → P j := fun j h => absurd h (Nat.not_lt_zero j)
theorem of_notT {b : Bool} (h : (!b) = true) : b = false := by simpa using h
theorem of_notF {b : Bool} (h : (!b) = false) : b = true := by simpa using h
def argC (s : ByteArray) : Int :=
  if (s.toList == (⟨#[99, 108, 111, 99, 107]⟩ : ByteArray).toList) = true then 0 else
  if ((s.toList == (⟨#[108, 101, 110]⟩ : ByteArray).toList) || ((s.toList == (⟨#[115, 117, 109]⟩ : ByteArray).toList) || ((s.toList == (⟨#[114, 111, 119, 115]⟩ : ByteArray).toList) || ((s.toList == (⟨#[99, 104, 97, 110, 99, 101]⟩ : ByteArray).toList) || (s.toList == (⟨#[102, 105, 108, 101]⟩ : ByteArray).toList))))) = true then 1 else
  if ((s.toList == (⟨#[116, 97, 107, 101]⟩ : ByteArray).toList) || ((s.toList == (⟨#[115, 107, 105, 112]⟩ : ByteArray).toList) || ((s.toList == (⟨#[114, 97, 110, 103, 101]⟩ : ByteArray).toList) || ((s.toList == (⟨#[110, 116, 104]⟩ : ByteArray).toList) || ((s.toList == (⟨#[107, 101, 101, 112]⟩ : ByteArray).toList) || ((s.toList == (⟨#[99, 111, 108, 117, 109, 110]⟩ : ByteArray).toList) || (s.toList == (⟨#[116, 97, 98, 108, 101]⟩ : ByteArray).toList))))))) = true then 2 else
  if ((s.toList == (⟨#[119, 104, 101, 114, 101]⟩ : ByteArray).toList) || ((s.toList == (⟨#[103, 114, 111, 117, 112]⟩ : ByteArray).toList) || (s.toList == (⟨#[106, 111, 105, 110]⟩ : ByteArray).toList))) = true then 3 else
  if (s.toList == (⟨#[97, 100, 100]⟩ : ByteArray).toList) = true then 4 else -1
end Go.Proofs.YtaecbmjmcpdgdaaGreat.Ab
