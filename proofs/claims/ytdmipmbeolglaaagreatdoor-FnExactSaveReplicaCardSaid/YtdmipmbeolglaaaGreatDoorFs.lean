/- The sum of a text's bytes as a description; records of operations in plain Lean. -/
import Derived.Test.YtdmipmbeolglaaaGreatDoorFk
import Derived.Test.YtdmipmbeolglaaaGreatDoorLx
import Derived.Test.YtdmipmbeolglaaaGreatDoorWB
namespace Go.Proofs.YtdmipmbeolglaaaGreatDoor.Ab
open Go.RowKit
set_option linter.unusedVariables false
def sumI (s : ByteArray) : Int := ((crcFold s.data.toList ^^^ 4294967295 : Nat) : Int)
def spSum : FSpec where
  pre args := ∃ s : ByteArray, s.size ≤ 140737488355328 ∧ args = [.val false [.s s]]
  res args := match args with
    | [.val _ [.s s]] => .val false [.i .i64 (sumI s)]
    | _ => .none
theorem sumI_in (s : ByteArray) : 0 ≤ sumI s ∧ sumI s < 4294967296 := by
  have hxx := Nat.xor_lt_two_pow (n := 32) (x := crcFold s.data.toList) (y := 4294967295) (crcFold_lt _) (by omega)
  unfold sumI
  omega
section
variable {P : Program} {T : Tab} {f : FuncId}
theorem sum_ok (hcall : ∀ args w, (callFunc f args).run P w = .ok (.enter f args) w)
    (h : ∀ (s : ByteArray) (w : World) (hs : s.size ≤ 281474976710656), Calls P f #[.string s] w fun e w' => e = .returned (.int .i64 ((crcFold s.data.toList ^^^ 4294967295 : Nat) : Int)) ∧ w = w') : FOk P T f spSum := by
  refine ⟨hcall, fun hb => (by cases hb), fun _ w X args vals hX hargs hgl hpre => ?_⟩
  obtain ⟨s, hs, he⟩ := hpre
  subst he
  obtain ⟨v, rfl, rfl, hk⟩ := hargs.one_
  refine (h s w (by omega)).mono fun e w' ⟨he, hw⟩ => ⟨_, fun _ => none, he, hw ▸ Below.refl _ _, ?_, (fun j b h => by cases h), (fun j j2 b h => by cases h)⟩
  have h1 : IntKind.i64.min = -9223372036854775808 := by decide
  have h2 : IntKind.i64.max = 9223372036854775807 := by decide
  have hi := sumI_in s
  exact ⟨_, rfl, rfl, by rw [inK, h1, h2]; omega⟩
end
/-- A record of a text. -/
def recT (t : ByteArray) : ByteArray := if t.data.toList = [] then ⟨#[]⟩ else t ++ ⟨#[32]⟩ ++ itoaB (sumI t) ++ ⟨#[10]⟩
theorem recT_no {t : ByteArray} (h : t.data.toList = []) : recT t = ⟨#[]⟩ := if_pos h
theorem recT_yes {t : ByteArray} (h : t.data.toList ≠ []) : recT t = t ++ ⟨#[32]⟩ ++ itoaB (sumI t) ++ ⟨#[10]⟩ := if_neg h
theorem itoa_sum (t : ByteArray) : (itoaB (sumI t)).size ≤ 10 := by
  have hi := sumI_in t
  show (Lib.itoa (sumI t)).toArray.size ≤ _
  rw [List.size_toArray]
  unfold Lib.itoa
  rw [if_neg (by omega)]
  exact decDigits_le 9 _ (by omega)
theorem recT_le {t : ByteArray} : (recT t).size ≤ t.size + 12 := by
  unfold recT
  split
  · exact Nat.zero_le _
  · have := itoa_sum t
    simp only [ByteArray.size_append]
    show t.size + 1 + _ + 1 ≤ _
    omega
theorem rec1 {t : ByteArray} (h : t.size ≤ 140737488355328) : t.size + (⟨#[32]⟩ : ByteArray).size ≤ maxLen := by
  show t.size + 1 ≤ maxLen
  simp only [maxLen]; omega
theorem rec2 {t : ByteArray} (h : t.size ≤ 140737488355328) : (t ++ ⟨#[32]⟩).size + (itoaB (sumI t)).size ≤ maxLen := by
  have := itoa_sum t
  rw [ByteArray.size_append]
  show t.size + 1 + _ ≤ maxLen
  simp only [maxLen]; omega
theorem rec3 {t : ByteArray} (h : t.size ≤ 140737488355328) : (t ++ ⟨#[32]⟩ ++ itoaB (sumI t)).size + (⟨#[10]⟩ : ByteArray).size ≤ maxLen := by
  have := itoa_sum t
  rw [ByteArray.size_append, ByteArray.size_append]
  show t.size + 1 + _ + 1 ≤ maxLen
  simp only [maxLen]; omega
theorem opText_le {a : List D} (hs : SmO a) : (opText a).size ≤ 140737488355328 := by
  unfold opText
  split
  · exact opText_size hs ‹_›
  · exact Nat.zero_le _
end Go.Proofs.YtdmipmbeolglaaaGreatDoor.Ab
