/- Plain facts: hexadecimal texts decoded, the reference's way and the library's. No program in sight. -/
import Derived.Lib.HexFns2
namespace Go.Proofs.YtpkgppfcnddgaabDoor
open Go.Lib

/-- The reference's digit: 0 where the byte is none. -/
def dg (c : UInt8) : Nat := if 48 ≤ c.toNat ∧ c.toNat ≤ 57 then c.toNat - 48 else if 97 ≤ c.toNat ∧ c.toNat ≤ 102 then c.toNat - 97 + 10 else 0
theorem dg_le (c : UInt8) : dg c ≤ 15 := by unfold dg; split <;> (try split) <;> omega
def pairs : List UInt8 → List UInt8
  | p :: q :: t => UInt8.ofNat (16 * dg p + dg q) :: pairs t
  | _ => []
def encS (l : List UInt8) : List UInt8 := if l = [] then [45] else Hx.encode l
/-- The reference's decoding. -/
def decR (l : List UInt8) : List UInt8 × Bool := if encS (pairs l) = l then (pairs l, true) else ([], false)
def isOk : Hx.Out → Bool
  | .ok => true
  | _ => false
/-- The program's decoding. -/
def decI (l : List UInt8) : List UInt8 × Bool :=
  if l = [45] then ([], true) else if isOk (Hx.decode l).2 = true ∧ encS (Hx.decode l).1 = l then ((Hx.decode l).1, true) else ([], false)

theorem dg_digit (n : Nat) (h : n < 16) : dg (Hx.digit n) = n := by
  have : ∀ n : Fin 16, dg (Hx.digit n.val) = n.val := by decide
  exact this ⟨n, h⟩
set_option maxRecDepth 100000 in
theorem v_digit (n : Nat) (h : n < 16) : Hx.v (Hx.digit n) = n := by
  have : ∀ n : Fin 16, Hx.v (Hx.digit n.val) = n.val := by decide
  exact this ⟨n, h⟩
theorem byte_halves (b : UInt8) : UInt8.ofNat (16 * (b.toNat / 16) + b.toNat % 16) = b := by
  rw [show 16 * (b.toNat / 16) + b.toNat % 16 = b.toNat by omega]; simp
theorem pairs_encode : ∀ l : List UInt8, pairs (Hx.encode l) = l
  | [] => rfl
  | b :: t => by
    have hb := b.toNat_lt
    rw [Hx.encode_cons, pairs, dg_digit _ (by omega), dg_digit _ (by omega), byte_halves, pairs_encode t]
theorem decode_encode : ∀ l : List UInt8, Hx.decode (Hx.encode l) = (l, .ok)
  | [] => Hx.decode_nil
  | b :: t => by
    have hb := b.toNat_lt
    rw [Hx.encode_cons, Hx.decode_two, v_digit _ (by omega), v_digit _ (by omega), if_neg (by omega), if_neg (by omega), decode_encode t,
      show b.toNat / 16 * 16 + b.toNat % 16 = 16 * (b.toNat / 16) + b.toNat % 16 by omega, byte_halves]
theorem encS_ne {l m : List UInt8} (h : encS m = l) (hl : l ≠ [45]) : m ≠ [] ∧ Hx.encode m = l := by
  unfold encS at h
  split at h
  · exact absurd h.symm hl
  · exact ⟨by assumption, h⟩
theorem dec_same (l : List UInt8) : decI l = decR l := by
  unfold decI decR
  by_cases hl : l = [45]
  · subst hl; rfl
  · rw [if_neg hl]
    by_cases h : encS (pairs l) = l
    · obtain ⟨hm, he⟩ := encS_ne h hl
      have hd : Hx.decode l = (pairs l, .ok) := by rw [← he, decode_encode, he]
      rw [if_pos h, hd, if_pos ⟨rfl, h⟩]
    · rw [if_neg h, if_neg]
      rintro ⟨_, h2⟩
      obtain ⟨hm, he⟩ := encS_ne h2 hl
      have hp : pairs l = (Hx.decode l).1 := by rw [← he, pairs_encode, he]
      exact h (by rw [hp]; exact h2)
theorem pairs_length : ∀ l : List UInt8, (pairs l).length = l.length / 2
  | [] => rfl
  | [_] => by simp [pairs]
  | _ :: _ :: t => by
    have := pairs_length t
    simp only [pairs, List.length_cons]
    omega
theorem pairs_append : ∀ (a : List UInt8) (p q : UInt8), a.length % 2 = 0 → pairs (a ++ [p, q]) = pairs a ++ [UInt8.ofNat (16 * dg p + dg q)]
  | [], _, _, _ => rfl
  | [x], _, _, h => by simp at h
  | x :: y :: t, p, q, h => by
    have := pairs_append t p q (by simp only [List.length_cons] at h; omega)
    simp only [List.cons_append, pairs, this]
theorem pairs_odd : ∀ (a : List UInt8) (p : UInt8), a.length % 2 = 0 → pairs (a ++ [p]) = pairs a
  | [], _, _ => rfl
  | [x], _, h => by simp at h
  | x :: y :: t, p, h => by
    have := pairs_odd t p (by simp only [List.length_cons] at h; omega)
    simp only [List.cons_append, pairs, this]
theorem pairs_end (l : List UInt8) (j : Nat) (hj : j % 2 = 0) (hle : j ≤ l.length) (h : ¬ j + 1 < l.length) : pairs (l.take j) = pairs l := by
  rcases (by omega : j = l.length ∨ l.length = j + 1) with rfl | h1
  · rw [List.take_of_length_le (Nat.le_refl _)]
  · have e : l = l.take j ++ [l[j]'(by omega)] := by
      rw [← List.take_succ_eq_append_getElem (by omega), List.take_of_length_le (by omega)]
    rw [e, List.take_append_of_le_length (by simp; omega), List.take_take, Nat.min_self, pairs_odd _ _ (by simp; omega)]
theorem pairs_step (s : ByteArray) (j : Nat) (hj : j % 2 = 0) (h : j + 1 < s.size) : pairs (s.data.toList.take (j + 2)) = pairs (s.data.toList.take j) ++ [UInt8.ofNat (16 * dg s[j] + dg s[j + 1])] := by
  have e : s.data.toList.take (j + 2) = s.data.toList.take j ++ [s[j], s[j + 1]] := by
    rw [List.take_succ_eq_append_getElem (by simp; omega), List.take_succ_eq_append_getElem (by simp; omega), List.append_assoc]; rfl
  rw [e, pairs_append _ _ _ (by simp; omega)]
end Go.Proofs.YtpkgppfcnddgaabDoor
