/- Descriptions of copies from type to type, and of types whose data are alike. No program in sight. Weights of parts of data. No program in sight. Values exactly, in plain Lean: names, columns, rows, depth, when a value is valid. No program in sight. -/
import Derived.Test.YtodddilaniojgaaGreatCDa
import Derived.Test.YtodddilaniojgaaGreatCFd
namespace Go.Proofs.YtodddilaniojgaaGreat.Ab
open Go.RowKit
set_option linter.unusedVariables false
variable {T : Tab}
def fill (a : List (List D)) (z : List D) (k : Nat) : List (List D) := a.take k ++ List.replicate (a.length - k) z
theorem overlay_all : ∀ (z ds : List D), z.length = ds.length → overlay z 0 ds = ds := by
  intro z ds h
  simp [overlay, ← h]
end Go.Proofs.YtodddilaniojgaaGreat.Ab
namespace Go.Proofs.YtodddilaniojgaaGreat.Ab
open Go.RowKit
set_option linter.unusedVariables false
end Go.Proofs.YtodddilaniojgaaGreat.Ab
namespace Go.Proofs.YtodddilaniojgaaGreat.Ab
open Go.RowKit
set_option linter.unusedVariables false
def allB (n : Nat) (P : Nat → Bool) : Bool := (List.range n).all P
theorem allB_iff {n : Nat} {P : Nat → Bool} : allB n P = true ↔ ∀ i, i < n → P i = true := by
  simp [allB]
theorem allB_stop {n i : Nat} {P : Nat → Bool} (hi : i < n) (h : P i = false) : allB n P = false := by
  cases he : allB n P with
  | false => rfl
  | true => rw [allB_iff.1 he i hi] at h; cases h
theorem allB_end {n i : Nat} {P : Nat → Bool} (h : ∀ j, j < i → P j = true) (hi : ¬ i < n) : allB n P = true := allB_iff.2 fun j hj => h j (by omega)
theorem all_succ {i : Nat} {P : Nat → Bool} (h : ∀ j, j < i → P j = true) (hi : P i = true) : ∀ j, j < i + 1 → P j = true := by
  intro j hj
  by_cases e : j = i
  · rw [e]; exact hi
  · exact h j (by omega)
def firstB (n : Nat) (P : Nat → Bool) : Int := match (List.range n).find? P with
  | some i => (i : Int)
  | none => -1
theorem range_find {n i : Nat} {P : Nat → Bool} (hi : i < n) (h : P i = true) (hb : ∀ j, j < i → P j = false) : (List.range n).find? P = some i := by
  rw [List.find?_range_eq_some]
  exact ⟨h, List.mem_range.2 hi, fun j hj => by rw [hb j hj]; rfl⟩
theorem firstB_hit {n i : Nat} {P : Nat → Bool} (hi : i < n) (h : P i = true) (hb : ∀ j, j < i → (!P j) = true) : firstB n P = (i : Int) := by
  unfold firstB
  rw [range_find hi h (fun j hj => by simpa using hb j hj)]
theorem firstB_none {n : Nat} {P : Nat → Bool} (hb : ∀ j, j < n → (!P j) = true) : firstB n P = -1 := by
  unfold firstB
  have : (List.range n).find? P = none := by
    rw [List.find?_eq_none]
    intro j hj
    have := hb j (List.mem_range.1 hj)
    simpa using this
  rw [this]
abbrev bAt (s : ByteArray) (i : Nat) : Int := ((s.data.getD (Int.toNat (i : Int)) 0).toNat : Int)
def txtByte (b : Int) : Bool := !(decide (b < 32) || decide (b > 126) || b == 34)
def okTxt (s : ByteArray) : Bool := allB s.size (fun i => txtByte (bAt s i)) && decide ((s.size : Int) ≤ 20)
def letB (b : Int) : Bool := decide (b ≥ 97) && decide (b ≤ 122)
def digB (b : Int) : Bool := decide (b ≥ 48) && decide (b ≤ 57)
def wordB (s : ByteArray) (i : Nat) : Bool := letB (bAt s i) || (!((i : Int) == 0) && digB (bAt s i))
def nameSh (s : ByteArray) : Bool := allB s.size (wordB s) && decide ((s.size : Int) > 0)
def resvB : List ByteArray := [⟨#[108, 101, 116]⟩, ⟨#[105, 110]⟩, ⟨#[105, 102]⟩, ⟨#[116, 104, 101, 110]⟩, ⟨#[101, 108, 115, 101]⟩, ⟨#[102, 111, 114]⟩, ⟨#[100, 111]⟩, ⟨#[108, 101, 110]⟩, ⟨#[115, 117, 109]⟩, ⟨#[116, 97, 107, 101]⟩, ⟨#[115, 107, 105, 112]⟩, ⟨#[114, 97, 110, 103, 101]⟩, ⟨#[110, 116, 104]⟩, ⟨#[119, 104, 101, 114, 101]⟩, ⟨#[107, 101, 101, 112]⟩, ⟨#[97, 100, 100]⟩, ⟨#[103, 114, 111, 117, 112]⟩, ⟨#[106, 111, 105, 110]⟩, ⟨#[99, 111, 108, 117, 109, 110]⟩, ⟨#[114, 111, 119, 115]⟩, ⟨#[99, 108, 111, 99, 107]⟩, ⟨#[99, 104, 97, 110, 99, 101]⟩, ⟨#[102, 105, 108, 101]⟩, ⟨#[116, 97, 98, 108, 101]⟩]
def isResv (s : ByteArray) : Bool := resvB.any fun x => s.toList == x.toList
def nameOk (s : ByteArray) : Bool := nameSh s && (decide ((s.size : Int) ≤ 8) && !isResv s)
abbrev tAt (rows : List (List D)) (k : Nat) : ByteArray := ((rows.getD (Int.toNat (k : Int)) []).getD 0 default).str
abbrev isAt (rows : List (List D)) (s : ByteArray) (k : Nat) : Bool := (tAt rows k).toList == s.toList
def hasT (rows : List (List D)) (s : ByteArray) : Bool := !allB rows.length fun k => !isAt rows s k
abbrev iAt (r : List D) (j : Nat) : Int := (r.getD j default).int
abbrev rAt (l : List (List D)) (i : Nat) : List D := l.getD (Int.toNat (i : Int)) []
end Go.Proofs.YtodddilaniojgaaGreat.Ab
