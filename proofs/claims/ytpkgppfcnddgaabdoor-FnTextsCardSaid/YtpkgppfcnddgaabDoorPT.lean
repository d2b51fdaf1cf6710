/- Plain facts: a text is decoded from its encoding; a changed byte changes the checksum. No program in sight. -/
import Derived.Test.YtpkgppfcnddgaabDoorPB
import Derived.Test.YtpkgppfcnddgaabDoorPD
namespace Go.Proofs.YtpkgppfcnddgaabDoor
open Go.Lib

theorem decR_encS (l : List UInt8) : decR (encS l) = (l, true) := by
  unfold decR
  by_cases h : l = []
  · subst h; rfl
  · have e : encS l = Hx.encode l := by unfold encS; rw [if_neg h]
    rw [e, pairs_encode, e, if_pos rfl]
theorem decR_true {l : List UInt8} (h : (decR l).2 = true) : encS (decR l).1 = l := by
  unfold decR at h ⊢
  split
  · assumption
  · rename_i hn; rw [if_neg hn] at h; cases h

theorem xor_right {a b c : Nat} (h : a ^^^ c = b ^^^ c) : a = b := by
  have := congrArg (· ^^^ c) h
  simpa [Nat.xor_assoc] using this
theorem xor_left {a b c : Nat} (h : c ^^^ a = c ^^^ b) : a = b := by
  rw [Nat.xor_comm c a, Nat.xor_comm c b] at h
  exact xor_right h
theorem crcStep_inj {x y : Nat} (hx : x < 4294967296) (hy : y < 4294967296) (h : crcStep x = crcStep y) : x = y := by
  have top : ∀ z w : Nat, z < 2147483648 → w < 2147483648 → z ^^^ 3988292384 ≠ w := by
    intro z w hz hw e
    have h1 : (z ^^^ 3988292384).testBit 31 = true := by
      rw [Nat.testBit_xor, Nat.testBit_lt_two_pow (show z < 2 ^ 31 from hz)]
      decide
    rw [e, Nat.testBit_lt_two_pow (show w < 2 ^ 31 from hw)] at h1
    cases h1
  unfold crcStep at h
  by_cases h1 : x % 2 = 1 <;> by_cases h2 : y % 2 = 1
  · rw [if_pos h1, if_pos h2] at h
    have := xor_right h
    omega
  · rw [if_pos h1, if_neg h2] at h
    exact absurd h (top _ _ (by omega) (by omega))
  · rw [if_neg h1, if_pos h2] at h
    exact absurd h.symm (top _ _ (by omega) (by omega))
  · rw [if_neg h1, if_neg h2] at h
    omega
theorem crcIter_inj : ∀ (n : Nat) {x y : Nat}, x < 4294967296 → y < 4294967296 → crcIter n x = crcIter n y → x = y
  | 0, _, _, _, _, h => h
  | n + 1, _, _, hx, hy, h => crcIter_inj n hx hy (crcStep_inj (crcIter_lt hx n) (crcIter_lt hy n) h)
theorem crcByte_inj {x y : Nat} (hx : x < 4294967296) (hy : y < 4294967296) (b : UInt8) (h : crcByte x b = crcByte y b) : x = y :=
  xor_right (crcIter_inj 8 (crcIn_lt hx b) (crcIn_lt hy b) h)
theorem crcByte_byte {x : Nat} (hx : x < 4294967296) {b c : UInt8} (h : crcByte x b = crcByte x c) : b = c :=
  UInt8.toNat_inj.1 (xor_left (crcIter_inj 8 (crcIn_lt hx b) (crcIn_lt hx c) h))
theorem foldl_inj : ∀ (l : List UInt8) {x y : Nat}, x < 4294967296 → y < 4294967296 → l.foldl crcByte x = l.foldl crcByte y → x = y
  | [], _, _, _, _, h => h
  | b :: r, _, _, hx, hy, h => crcByte_inj hx hy b (foldl_inj r (crcByte_lt hx b) (crcByte_lt hy b) h)
theorem crc_set (l : List UInt8) (q : Nat) (b : UInt8) (hq : q < l.length) (hb : b ≠ l[q]) : crcFold (l.set q b) ^^^ 4294967295 ≠ crcFold l ^^^ 4294967295 := by
  intro h
  have h := xor_right h
  have e1 : l.set q b = l.take q ++ b :: l.drop (q + 1) := List.set_eq_take_append_cons_drop ▸ by rw [if_pos hq]
  have e2 : l = l.take q ++ l[q] :: l.drop (q + 1) := by rw [List.getElem_cons_drop, List.take_append_drop]
  rw [e1] at h
  conv at h => rhs; rw [e2]
  unfold crcFold at h
  rw [List.foldl_append, List.foldl_append, List.foldl_cons, List.foldl_cons] at h
  have hx : (l.take q).foldl crcByte 4294967295 < 4294967296 := crcFold_lt _
  exact hb (crcByte_byte hx (foldl_inj _ (crcByte_lt hx _) (crcByte_lt hx _) h))
end Go.Proofs.YtpkgppfcnddgaabDoor
