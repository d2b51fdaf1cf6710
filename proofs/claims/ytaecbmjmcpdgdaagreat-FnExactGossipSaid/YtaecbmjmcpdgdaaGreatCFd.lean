/- Texts of numbers, of bytes, of words: descriptions of functions of formats, and the library's contracts as such. Loops of formats, in plain Lean: a number's digits from the right; bytes two digits each; words joined. Operations, in plain Lean: when they are valid; their numbers; their words. The words of operations, in plain Lean: which they are, how many and how long. -/
import Derived.Test.YtaecbmjmcpdgdaaGreatCEd
import Derived.Lib.ItoaNum
import Derived.Lib.HexFns
import Derived.Lib.Join
import Derived.Lib.LaidTab
import Derived.Lib.AppendIntMem
namespace Go.Proofs.YtaecbmjmcpdgdaaGreat.Ab
open Go.RowKit
set_option linter.unusedVariables false
def itoaB (n : Int) : ByteArray := ⟨(Lib.itoa n).toArray⟩
theorem decDigits_len (u : Nat) : (Lib.decDigits u).length ≤ u / 2 + 1 := by
  induction u using Nat.strongRecOn with
  | _ u ih =>
    rw [Lib.decDigits]
    split
    · simp
    · have := ih (u / 10) (by omega)
      rw [List.length_append, List.length_singleton]
      omega
section
variable {P : Program} {T : Tab} {f : FuncId}
end
end Go.Proofs.YtaecbmjmcpdgdaaGreat.Ab
namespace Go.Proofs.YtaecbmjmcpdgdaaGreat.Ab
open Go.RowKit
set_option linter.unusedVariables false
def pre10 (u : Nat) : List UInt8 := if u = 0 then [] else Lib.decDigits u
theorem pre10_step {u : Nat} (h : u ≠ 0) : pre10 u = pre10 (u / 10) ++ [UInt8.ofNat (48 + u % 10)] := by
  unfold pre10
  rw [if_neg h, Lib.decDigits]
  split
  · rename_i hu
    rw [if_pos (by omega), Nat.mod_eq_of_lt hu]
    rfl
  · rename_i hu
    rw [if_neg (by omega)]
theorem tdiv10 (y : Int) : (y.tdiv 10).natAbs = y.natAbs / 10 := by rw [Int.natAbs_tdiv]; rfl
theorem tmod10 (y : Int) : (y.tmod 10).natAbs = y.natAbs % 10 := by rw [Int.natAbs_tmod]; rfl
theorem tdiv10_sign (y : Int) : (0 ≤ y → 0 ≤ y.tdiv 10) ∧ (y ≤ 0 → y.tdiv 10 ≤ 0) := by
  refine ⟨fun h => Int.tdiv_nonneg h (by decide), fun h => ?_⟩
  have := Int.tdiv_nonneg (a := -y) (b := 10) (by omega) (by decide)
  rw [Int.neg_tdiv] at this
  omega
def FI (x y : Int) (o : ByteArray) : Prop := pre10 y.natAbs ++ o.data.toList = Lib.decDigits x.natAbs ∧ (x < 0 → y ≤ 0) ∧ (0 ≤ x → 0 ≤ y) ∧ y.natAbs ≤ x.natAbs
theorem FI.first {x : Int} (h : x ≠ 0) : FI x x ⟨#[]⟩ := by
  refine ⟨?_, fun h => by omega, fun h => h, Nat.le_refl _⟩
  unfold pre10
  rw [if_neg (by omega)]
  simp
theorem FI.size {x y : Int} {o : ByteArray} (h : FI x y o) (hx : inK .i64 x) : o.size ≤ 4611686018427387906 := by
  have h1 : IntKind.i64.min = -9223372036854775808 := by decide
  have h2 : IntKind.i64.max = 9223372036854775807 := by decide
  rw [inK, h1, h2] at hx
  have h3 := decDigits_len x.natAbs
  have h4 := congrArg List.length h.1
  rw [List.length_append] at h4
  have h5 : o.data.toList.length = o.data.size := Array.length_toList
  show o.data.size ≤ _
  omega
theorem FI.inK {x y : Int} {o : ByteArray} (h : FI x y o) (hx : Ab.inK .i64 x) : Ab.inK .i64 y := by
  have h1 : IntKind.i64.min = -9223372036854775808 := by decide
  have h2 : IntKind.i64.max = 9223372036854775807 := by decide
  have h3 := h.2.2.2
  have h4 := h.2.1
  have h5 := h.2.2.1
  rw [Ab.inK, h1, h2] at hx ⊢
  omega
theorem FI.next {x y n : Int} {o : ByteArray} (h : FI x y o) (hy : y ≠ 0) (hn : n = 48 + (y.tmod 10).natAbs) : FI x (y.tdiv 10) (bytesOf [[.i n]] ++ o) := by
  refine ⟨?_, fun hx => (tdiv10_sign y).2 (h.2.1 hx), fun hx => (tdiv10_sign y).1 (h.2.2.1 hx), by rw [tdiv10]; have := h.2.2.2; omega⟩
  have e : (bytesOf [[D.i n]] ++ o).data.toList = [UInt8.ofNat n.toNat] ++ o.data.toList := by
    simp [bytesOf, D.int]
  rw [e, tdiv10, ← List.append_assoc, ← h.1, pre10_step (u := y.natAbs) (by omega), hn, tmod10]
  congr 3
theorem FI.last {x y : Int} {o : ByteArray} (h : FI x y o) (hy : y = 0) : o.data.toList = Lib.decDigits x.natAbs := by
  have := h.1
  subst hy
  simpa [pre10] using this
theorem FI.neg {x y : Int} {o : ByteArray} (h : FI x y o) (hy : y = 0) (hx : x < 0) : (⟨#[45]⟩ : ByteArray) ++ o = itoaB x := by
  have h1 := h.last hy
  unfold itoaB Lib.itoa
  rw [if_pos hx, ← h1]
  apply ByteArray.ext
  apply Array.ext'
  simp
theorem FI.pos {x y : Int} {o : ByteArray} (h : FI x y o) (hy : y = 0) (hx : ¬ x < 0) : o = itoaB x := by
  have h1 := h.last hy
  have e : x.toNat = x.natAbs := by omega
  unfold itoaB Lib.itoa
  rw [if_neg hx, e, ← h1]
theorem FI.quo {x y : Int} {o : ByteArray} (h : FI x y o) (hx : Ab.inK .i64 x) : IntKind.i64.wrap (y.tdiv 10) = y.tdiv 10 := by
  have h1 : IntKind.i64.min = -9223372036854775808 := by decide
  have h2 : IntKind.i64.max = 9223372036854775807 := by decide
  have h3 := h.inK hx
  have := tdiv10 y
  rw [Ab.inK, h1, h2] at h3
  rw [IntKind.wrap_i64]
  omega
end Go.Proofs.YtaecbmjmcpdgdaaGreat.Ab
namespace Go.Proofs.YtaecbmjmcpdgdaaGreat.Ab
open Go.RowKit
set_option linter.unusedVariables false
def intOf (r : List D) : Int := (r.getD 0 default).int
def seenB (rows : List (List D)) : Bool := rows.all (fun r => inR (intOf r) 0 60) && decide (rows.length = 3)
def noEdit (a : List D) : Bool := (a.getD 4 default).int == 0 && ((a.getD 5 default).int == 0 && ((a.getD 6 default).int == 0 && ((a.getD 7 default).int == 0 && ((a.getD 8 default).int == 0 && ((a.getD 9 default).str.toList == (⟨#[]⟩ : ByteArray).toList && ((a.getD 10 default).str.toList == (⟨#[]⟩ : ByteArray).toList && (a.getD 11 default).int == 0))))))
def noNames (a : List D) : Bool := (a.getD 12 default).str.toList == (⟨#[]⟩ : ByteArray).toList && (a.getD 13 default).str.toList == (⟨#[]⟩ : ByteArray).toList
def noTape (a : List D) : Bool := (a.getD 14 default).int == 0 && ((a.getD 15 default).int == 0 && ((a.getD 16 default).rows.length : Int) == 0)
def okOp (a : List D) : Bool := inR (a.getD 0 default).int 1 300 && (inR (a.getD 1 default).int 0 2 && (seenB (a.getD 3 default).rows && (inR (a.getD 2 default).int 1 3 &&
  (if (a.getD 2 default).int = 1 then noNames a && noTape a else if (a.getD 2 default).int = 2 then noEdit a && noTape a else noEdit a && noNames a))))
end Go.Proofs.YtaecbmjmcpdgdaaGreat.Ab
namespace Go.Proofs.YtaecbmjmcpdgdaaGreat.Ab
open Go.RowKit
set_option linter.unusedVariables false
end Go.Proofs.YtaecbmjmcpdgdaaGreat.Ab
