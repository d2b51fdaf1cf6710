/- Numbers' texts read back, and that they hold no space, in plain Lean. No program in sight. Words joined by spaces, cut again, in plain Lean. No program in sight. Plain facts: hexadecimal texts decoded, the reference's way and the library's. No program in sight. Numbers read from texts, words cut, texts decoded: in plain Lean. No program in sight. Descriptions of readers of numbers, words and texts. No program in sight. -/
import Derived.Lib.Atoi
import Derived.Lib.ItoaNum
import Derived.Lib.Join
import Derived.Lib.HexFns2
import Derived.Test.YtodddilaniojgaaGreatCFd
import Derived.Lib.SplitLaws
import Derived.Lib.IndexLaws
import Derived.Lib.CountLaws
import Derived.Lib.IndexBytes
import Derived.Test.YtodddilaniojgaaGreatCTa
import Derived.IntWalk
namespace Go.Proofs.YtodddilaniojgaaGreat.Ab
open Go
end Go.Proofs.YtodddilaniojgaaGreat.Ab
namespace Go.Proofs.YtodddilaniojgaaGreat.Ab
open Go
def words32 : List UInt8 → List (List UInt8)
  | [] => [[]]
  | b :: r => if b = 32 then [] :: words32 r else match words32 r with
    | w :: ws => (b :: w) :: ws
    | [] => [[b]]
theorem words32_ne : ∀ l, words32 l ≠ []
  | [] => by simp [words32]
  | b :: r => by
    unfold words32
    split
    · simp
    · split
      · simp
      · simp
theorem words32_snoc : ∀ (l : List UInt8) (out : List (List UInt8)) (w : List UInt8) (b : UInt8), words32 l = out ++ [w] → words32 (l ++ [b]) = if b = 32 then out ++ [w] ++ [[]] else out ++ [w ++ [b]]
  | [], out, w, b, h => by
    have h' : out = [] ∧ w = [] := by
      cases out with
      | nil => simpa [words32, eq_comm] using h
      | cons x out =>
        have := congrArg List.length h
        simp [words32] at this
    obtain ⟨rfl, rfl⟩ := h'
    by_cases hb : b = 32
    · subst hb; rfl
    · rw [if_neg hb]
      show words32 [b] = [[b]]
      rw [words32, if_neg hb]
      rfl
  | a :: l, out, w, b, h => by
    obtain ⟨o2, w2, e2⟩ : ∃ o2 w2, words32 l = o2 ++ [w2] := by
      have := words32_ne l
      exact ⟨(words32 l).dropLast, (words32 l).getLast this, (List.dropLast_concat_getLast this).symm⟩
    have ih := words32_snoc l o2 w2 b e2
    rw [List.cons_append, words32]
    rw [words32] at h
    by_cases ha : a = 32
    · rw [if_pos ha] at h ⊢
      rw [e2] at h
      have h2 : ([] :: o2) ++ [w2] = out ++ [w] := h
      have h3 := List.append_inj' h2 rfl
      obtain ⟨h4, h5⟩ := h3
      have h6 : w2 = w := by simpa using h5
      subst h4
      subst h6
      rw [ih]
      by_cases hb : b = 32
      · rw [if_pos hb, if_pos hb]; rfl
      · rw [if_neg hb, if_neg hb]; rfl
    · rw [if_neg ha] at h ⊢
      cases o2 with
      | nil =>
        rw [e2] at h
        have h2 : [] ++ [a :: w2] = out ++ [w] := h
        obtain ⟨h4, h5⟩ := List.append_inj' h2 rfl
        have h6 : a :: w2 = w := by simpa using h5
        subst h4
        subst h6
        rw [ih]
        by_cases hb : b = 32
        · rw [if_pos hb, if_pos hb]; rfl
        · rw [if_neg hb, if_neg hb]; rfl
      | cons x o2 =>
        rw [e2] at h
        have h2 : ((a :: x) :: o2) ++ [w2] = out ++ [w] := h
        obtain ⟨h4, h5⟩ := List.append_inj' h2 rfl
        have h6 : w2 = w := by simpa using h5
        subst h4
        subst h6
        rw [ih]
        by_cases hb : b = 32
        · rw [if_pos hb, if_pos hb]; rfl
        · rw [if_neg hb, if_neg hb]; rfl
end Go.Proofs.YtodddilaniojgaaGreat.Ab
namespace Go.Proofs.YtodddilaniojgaaGreat
open Go.Lib
end Go.Proofs.YtodddilaniojgaaGreat
namespace Go.Proofs.YtodddilaniojgaaGreat.Ab
open Go.RowKit
set_option linter.unusedVariables false
theorem digit_val {b : UInt8} (h1 : 48 ≤ b.toNat) (h2 : b.toNat ≤ 57) : Lib.digitVal b = some (b.toNat - 48) := by
  unfold Lib.digitVal
  rw [if_pos ⟨h1, h2⟩]
theorem read_next {l : List UInt8} {i N : Nat} {b : UInt8} (hd : Lib.decFrom 0 (l.take i) = some N) (hb : l[i]? = some b) (h1 : 48 ≤ b.toNat) (h2 : b.toNat ≤ 57) :
    Lib.decFrom 0 (l.take (i + 1)) = some (N * 10 + (b.toNat - 48)) := Lib.decFrom_take l i 0 N b _ hd hb (digit_val h1 h2)
def wordsB (s : ByteArray) : List ByteArray := (words32 s.data.toList).map fun w => ⟨w.toArray⟩
theorem words32_count : ∀ (l : List UInt8), (words32 l).length ≤ l.length + 1
  | [] => Nat.le_refl _
  | b :: r => by
    have ih := words32_count r
    rw [words32]
    split
    · rw [List.length_cons, List.length_cons]; omega
    · split
      · rename_i x xs hx
        rw [hx, List.length_cons] at ih
        rw [List.length_cons, List.length_cons]; omega
      · rw [List.length_cons, List.length_cons]; simp
theorem wordsB_length (s : ByteArray) : (wordsB s).length ≤ s.size + 1 := by
  have hs : s.data.toList.length = s.size := by rw [Array.length_toList]; rfl
  have := words32_count s.data.toList
  unfold wordsB
  rw [List.length_map]; omega
end Go.Proofs.YtodddilaniojgaaGreat.Ab
namespace Go.Proofs.YtodddilaniojgaaGreat.Ab
open Go.RowKit
set_option linter.unusedVariables false
abbrev sArg (s : ByteArray) : SV := .val false [.s s]
abbrev iArg (n : Int) : SV := .val false [.i .i64 n]
def spSplit (o : Bool) : FSpec where
  pre args := ∃ s : ByteArray, s.size ≤ 1048576 ∧ args = [sArg s, .val false [.i .u8 32]]
  res args := match args with
    | [.val _ [.s s], _] => .val false [.sl o 9 (strRows (wordsB s))]
    | _ => .none
theorem list_getD {s : ByteArray} {i : Nat} (h : i < s.size) : s.data.toList[i]? = some (s.data.getD i 0) := by
  have hs : i < s.data.size := h
  rw [Array.getElem?_toList, Array.getD, dif_pos hs, Array.getElem?_eq_getElem hs]
  rfl
def RI (t : ByteArray) (N i : Nat) : Prop := Lib.decFrom 0 (t.data.toList.take i) = some N ∧ N < 10 ^ i ∧ i ≤ t.size
theorem RI.zero (t : ByteArray) : RI t 0 0 := ⟨rfl, by decide, Nat.zero_le _⟩
theorem RI.less {t : ByteArray} {N i : Nat} (h : RI t N i) (hi : i < t.size) (ht : t.size ≤ 12) : N < 100000000000 := Nat.lt_of_lt_of_le h.2.1 (Nat.le_trans (Nat.pow_le_pow_right (by decide) (show i ≤ 11 by omega)) (by decide))
theorem RI.next {t : ByteArray} {N i : Nat} (h : RI t N i) (hi : i < t.size) (h1 : ¬ (t.data.getD i 0).toNat < 48) (h2 : ¬ (t.data.getD i 0).toNat > 57) : RI t (N * 10 + ((t.data.getD i 0).toNat - 48)) (i + 1) := by
  refine ⟨read_next h.1 (list_getD hi) (by omega) (by omega), ?_, hi⟩
  have := h.2.1
  rw [Nat.pow_succ]
  omega
theorem RI.all {t : ByteArray} {N i : Nat} (h : RI t N i) (hi : ¬ i < t.size) : Lib.decFrom 0 t.data.toList = some N := by
  have hsz : t.data.toList.length = t.size := by rw [Array.length_toList]; rfl
  have := h.1
  rw [List.take_of_length_le (by omega)] at this
  exact this
theorem RI.num {t : ByteArray} {N i : Nat} (h : RI t N i) (hi : i < t.size) (ht : t.size ≤ 12) (h1 : ¬ (t.data.getD i 0).toNat < 48) (h2 : ¬ (t.data.getD i 0).toNat > 57) :
    IntKind.i64.wrap (IntKind.i64.wrap (10 * (N : Int)) + IntKind.i64.wrap (IntKind.u8.wrap (((t.data.getD i 0).toNat : Int) - 48))) = ((N * 10 + ((t.data.getD i 0).toNat - 48) : Nat) : Int) := by
  have hN := h.less hi ht
  have e1 : IntKind.u8.wrap (((t.data.getD i 0).toNat : Int) - 48) = ((t.data.getD i 0).toNat : Int) - 48 := IntWalk.u8_in _ (by omega)
  have e2 : IntKind.i64.wrap (((t.data.getD i 0).toNat : Int) - 48) = ((t.data.getD i 0).toNat : Int) - 48 := IntWalk.i64_in _ (by omega)
  have e3 : IntKind.i64.wrap (10 * (N : Int)) = 10 * (N : Int) := IntWalk.i64_in _ (by omega)
  rw [e1, e2, e3, IntWalk.i64_in _ (by omega)]
  omega
end Go.Proofs.YtodddilaniojgaaGreat.Ab
