/- Values exactly, in plain Lean: names, columns, rows, depth, when a value is valid. No program in sight. Numbers' texts read back, and that they hold no space, in plain Lean. No program in sight. Words joined by spaces, cut again, in plain Lean. No program in sight. Plain facts: hexadecimal texts decoded, the reference's way and the library's. No program in sight. Numbers read from texts, words cut, texts decoded: in plain Lean. No program in sight. Descriptions of readers of numbers, words and texts. No program in sight. -/
import Derived.Test.YtaecbmjmcpdgdaaGreatCEd
import Derived.Test.YtaecbmjmcpdgdaaGreatCFd
import Derived.Lib.Atoi
import Derived.Lib.ItoaNum
import Derived.Lib.Join
import Derived.Lib.HexFns2
import Derived.Lib.SplitLaws
import Derived.Lib.IndexLaws
import Derived.Lib.CountLaws
import Derived.Lib.IndexBytes
import Derived.Test.YtaecbmjmcpdgdaaGreatCTa
import Derived.IntWalk
namespace Go.Proofs.YtaecbmjmcpdgdaaGreat.Ab
open Go.RowKit
set_option linter.unusedVariables false
def allB (n : Nat) (P : Nat → Bool) : Bool := (List.range n).all P
theorem allB_iff {n : Nat} {P : Nat → Bool} : allB n P = true ↔ ∀ i, i < n → P i = true := by
  simp [allB]
theorem allB_stop {n i : Nat} {P : Nat → Bool} (hi : i < n) (h : P i = false) : allB n P = false := by
  cases he : allB n P with
  | false => rfl
  | true => rw [allB_iff.1 he i hi] at h; cases h
theorem allB_end {n i : Nat} {P : Nat → Bool} (h : ∀ j, j < i → P j = true) (hi : ¬ i < n) : allB n P = true := allB_iff.2 fun j hj => h j (by omega)
theorem all_succ {i : Nat} {P : Nat → Bool} (h : ∀ j, j < i → P j = true) (hi : P i = true) : ∀ j, j < i + 1 → P j = true := by
  intro j hj
  by_cases e : j = i
  · rw [e]; exact hi
  · exact h j (by omega)
abbrev bAt (s : ByteArray) (i : Nat) : Int := ((s.data.getD (Int.toNat (i : Int)) 0).toNat : Int)
def letB (b : Int) : Bool := decide (b ≥ 97) && decide (b ≤ 122)
def digB (b : Int) : Bool := decide (b ≥ 48) && decide (b ≤ 57)
def wordB (s : ByteArray) (i : Nat) : Bool := letB (bAt s i) || (!((i : Int) == 0) && digB (bAt s i))
def nameSh (s : ByteArray) : Bool := allB s.size (wordB s) && decide ((s.size : Int) > 0)
def resvB : List ByteArray := [⟨#[108, 101, 116]⟩, ⟨#[105, 110]⟩, ⟨#[105, 102]⟩, ⟨#[116, 104, 101, 110]⟩, ⟨#[101, 108, 115, 101]⟩, ⟨#[102, 111, 114]⟩, ⟨#[100, 111]⟩, ⟨#[108, 101, 110]⟩, ⟨#[115, 117, 109]⟩, ⟨#[116, 97, 107, 101]⟩, ⟨#[115, 107, 105, 112]⟩, ⟨#[114, 97, 110, 103, 101]⟩, ⟨#[110, 116, 104]⟩, ⟨#[119, 104, 101, 114, 101]⟩, ⟨#[107, 101, 101, 112]⟩, ⟨#[97, 100, 100]⟩, ⟨#[103, 114, 111, 117, 112]⟩, ⟨#[106, 111, 105, 110]⟩, ⟨#[99, 111, 108, 117, 109, 110]⟩, ⟨#[114, 111, 119, 115]⟩, ⟨#[99, 108, 111, 99, 107]⟩, ⟨#[99, 104, 97, 110, 99, 101]⟩, ⟨#[102, 105, 108, 101]⟩, ⟨#[116, 97, 98, 108, 101]⟩]
def isResv (s : ByteArray) : Bool := resvB.any fun x => s.toList == x.toList
def nameOk (s : ByteArray) : Bool := nameSh s && (decide ((s.size : Int) ≤ 8) && !isResv s)
abbrev iAt (r : List D) (j : Nat) : Int := (r.getD j default).int
abbrev rAt (l : List (List D)) (i : Nat) : List D := l.getD (Int.toNat (i : Int)) []
end Go.Proofs.YtaecbmjmcpdgdaaGreat.Ab
namespace Go.Proofs.YtaecbmjmcpdgdaaGreat.Ab
open Go
end Go.Proofs.YtaecbmjmcpdgdaaGreat.Ab
namespace Go.Proofs.YtaecbmjmcpdgdaaGreat.Ab
open Go
end Go.Proofs.YtaecbmjmcpdgdaaGreat.Ab
namespace Go.Proofs.YtaecbmjmcpdgdaaGreat
open Go.Lib
end Go.Proofs.YtaecbmjmcpdgdaaGreat
namespace Go.Proofs.YtaecbmjmcpdgdaaGreat.Ab
open Go.RowKit
set_option linter.unusedVariables false
theorem digit_val {b : UInt8} (h1 : 48 ≤ b.toNat) (h2 : b.toNat ≤ 57) : Lib.digitVal b = some (b.toNat - 48) := by
  unfold Lib.digitVal
  rw [if_pos ⟨h1, h2⟩]
theorem read_next {l : List UInt8} {i N : Nat} {b : UInt8} (hd : Lib.decFrom 0 (l.take i) = some N) (hb : l[i]? = some b) (h1 : 48 ≤ b.toNat) (h2 : b.toNat ≤ 57) :
    Lib.decFrom 0 (l.take (i + 1)) = some (N * 10 + (b.toNat - 48)) := Lib.decFrom_take l i 0 N b _ hd hb (digit_val h1 h2)
end Go.Proofs.YtaecbmjmcpdgdaaGreat.Ab
namespace Go.Proofs.YtaecbmjmcpdgdaaGreat.Ab
open Go.RowKit
set_option linter.unusedVariables false
theorem list_getD {s : ByteArray} {i : Nat} (h : i < s.size) : s.data.toList[i]? = some (s.data.getD i 0) := by
  have hs : i < s.data.size := h
  rw [Array.getElem?_toList, Array.getD, dif_pos hs, Array.getElem?_eq_getElem hs]
  rfl
def RI (t : ByteArray) (N i : Nat) : Prop := Lib.decFrom 0 (t.data.toList.take i) = some N ∧ N < 10 ^ i ∧ i ≤ t.size
theorem RI.zero (t : ByteArray) : RI t 0 0 := ⟨rfl, by decide, Nat.zero_le _⟩
theorem RI.small {t : ByteArray} {N i : Nat} (h : RI t N i) (ht : t.size ≤ 12) : N < 1000000000000 := Nat.lt_of_lt_of_le h.2.1 (Nat.le_trans (Nat.pow_le_pow_right (by decide) (Nat.le_trans h.2.2 ht)) (by decide))
theorem RI.less {t : ByteArray} {N i : Nat} (h : RI t N i) (hi : i < t.size) (ht : t.size ≤ 12) : N < 100000000000 := Nat.lt_of_lt_of_le h.2.1 (Nat.le_trans (Nat.pow_le_pow_right (by decide) (show i ≤ 11 by omega)) (by decide))
theorem RI.next {t : ByteArray} {N i : Nat} (h : RI t N i) (hi : i < t.size) (h1 : ¬ (t.data.getD i 0).toNat < 48) (h2 : ¬ (t.data.getD i 0).toNat > 57) : RI t (N * 10 + ((t.data.getD i 0).toNat - 48)) (i + 1) := by
  refine ⟨read_next h.1 (list_getD hi) (by omega) (by omega), ?_, hi⟩
  have := h.2.1
  rw [Nat.pow_succ]
  omega
theorem RI.all {t : ByteArray} {N i : Nat} (h : RI t N i) (hi : ¬ i < t.size) : Lib.decFrom 0 t.data.toList = some N := by
  have hsz : t.data.toList.length = t.size := by rw [Array.length_toList]; rfl
  have := h.1
  rw [List.take_of_length_le (by omega)] at this
  exact this
theorem RI.num {t : ByteArray} {N i : Nat} (h : RI t N i) (hi : i < t.size) (ht : t.size ≤ 12) (h1 : ¬ (t.data.getD i 0).toNat < 48) (h2 : ¬ (t.data.getD i 0).toNat > 57) :
    IntKind.i64.wrap (IntKind.i64.wrap (10 * (N : Int)) + IntKind.i64.wrap (IntKind.u8.wrap (((t.data.getD i 0).toNat : Int) - 48))) = ((N * 10 + ((t.data.getD i 0).toNat - 48) : Nat) : Int) := by
  have hN := h.less hi ht
  have e1 : IntKind.u8.wrap (((t.data.getD i 0).toNat : Int) - 48) = ((t.data.getD i 0).toNat : Int) - 48 := IntWalk.u8_in _ (by omega)
  have e2 : IntKind.i64.wrap (((t.data.getD i 0).toNat : Int) - 48) = ((t.data.getD i 0).toNat : Int) - 48 := IntWalk.i64_in _ (by omega)
  have e3 : IntKind.i64.wrap (10 * (N : Int)) = 10 * (N : Int) := IntWalk.i64_in _ (by omega)
  rw [e1, e2, e3, IntWalk.i64_in _ (by omega)]
  omega
end Go.Proofs.YtaecbmjmcpdgdaaGreat.Ab
