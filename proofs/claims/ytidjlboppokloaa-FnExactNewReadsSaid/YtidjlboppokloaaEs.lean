/- Sizes of data: what the laws' measures say. No program in sight but for the table of types. -/
import Derived.Test.YtidjlboppokloaaEd
namespace Go.Proofs.Ytidjlboppokloaa.Ab
open Go.RowKit
set_option linter.unusedVariables false
mutual
def wD : D → Nat
  | .s x => x.size
  | .l rows => rows.length + wRows rows
  | .i _ => 0
  | .b _ => 0
def wRow : List D → Nat
  | [] => 0
  | d :: r => wD d + wRow r
def wRows : List (List D) → Nat
  | [] => 0
  | r :: rs => wRow r + wRows rs
end
theorem wRows_append : ∀ (a b : List (List D)), wRows (a ++ b) = wRows a + wRows b
  | [], b => by simp [wRows]
  | r :: rs, b => by simp only [List.cons_append, wRows, wRows_append rs b]; omega
theorem wRows_next {a : List (List D)} {i : Int} (h0 : 0 ≤ i) (hi : i < a.length) : wRows (a.take (i + 1).toNat) = wRows (a.take i.toNat) + wRow (a.getD i.toNat []) := by
  have e : (i + 1).toNat = i.toNat + 1 := by omega
  rw [e, List.take_add_one, row_at h0 hi, wRows_append]
  simp [wRows]
theorem wRows_le (a : List (List D)) (k : Nat) : wRows (a.take k) ≤ wRows a := by
  have := wRows_append (a.take k) (a.drop k)
  rw [List.take_append_drop] at this
  omega
theorem wRows_all {a : List (List D)} {i : Int} (h0 : 0 ≤ i) (hi : i ≤ a.length) (hn : decide (i < (a.length : Int)) = false) : wRows (a.take i.toNat) = wRows a := by
  have hn' : ¬ i < (a.length : Int) := by simpa using hn
  have : i.toNat = a.length := by omega
  rw [this, List.take_length]
/-- What is left of a measure. -/
def szR (l : Int) (w : Nat) : Int := if l < w then -1 else l - w
theorem szR_no {l : Int} {w : Nat} (h : decide (szR l w < 0) = true) (hl : 0 ≤ l) : l < w := by
  have h' := of_decide_eq_true h
  unfold szR at h'
  split at h'
  · assumption
  · omega
theorem szR_yes {l : Int} {w : Nat} (h : decide (szR l w < 0) = false) : (w : Int) ≤ l ∧ szR l w = l - w := by
  have h' : ¬ szR l w < 0 := by simpa using h
  unfold szR at h' ⊢
  split at h'
  · omega
  · rename_i hh; rw [if_neg hh]; exact ⟨by omega, rfl⟩
theorem szR_lt {l : Int} {w : Nat} (h : l < w) : szR l w = -1 := if_pos h
theorem szR_ge {l : Int} {w : Nat} (h : (w : Int) ≤ l) : szR l w = l - w := if_neg (by omega)
theorem sub_no {l : Int} {w : Nat} (h : decide (IntKind.i64.wrap (l - w) < 0) = true) (h0 : 0 ≤ l) (h1 : l ≤ 1048576) (hw : w ≤ maxLen) : l < w := by
  have h' := of_decide_eq_true h
  simp only [maxLen] at hw
  rw [IntKind.wrap_i64] at h'
  omega
theorem sub_yes {l : Int} {w : Nat} (h : decide (IntKind.i64.wrap (l - w) < 0) = false) (h0 : 0 ≤ l) (h1 : l ≤ 1048576) (hw : w ≤ maxLen) : (w : Int) ≤ l ∧ IntKind.i64.wrap (l - w) = l - w := by
  have h' : ¬ IntKind.i64.wrap (l - w) < 0 := by simpa using h
  simp only [maxLen] at hw
  rw [IntKind.wrap_i64] at h' ⊢
  omega
theorem WfRow.str {cts : List CT} {r : List D} (h : WfRow T cts r) {j : Nat} (hj : cts[j]? = some .s) : (r.getD j default).str.size ≤ maxLen := by
  have hl : j < r.length := by rw [h.1]; exact (List.getElem?_eq_some_iff.1 hj).1
  have e1 : r[j]? = some (r.getD j default) := by simp [List.getD_eq_getElem?_getD, List.getElem?_eq_getElem hl]
  obtain ⟨x, h1, h2⟩ := (h.2 j _ _ hj e1).str'
  rw [h1]
  exact h2
/-- A measure: of a slice or of a structure, with what is left. -/
def szS (e : TypeId) : FSpec where
  pre args := ∃ (a : List (List D)) (l : Int), 0 ≤ l ∧ l ≤ 1048576 ∧ args = [argS e a, .val false [.i .i64 l]]
  res args := match args with
    | [.val _ cs, .val _ [.i _ l]] => .val false [.i .i64 (szR l (wRow (csD cs)))]
    | _ => .none
def szG (cts : List CT) : FSpec where
  pre args := ∃ (a : List D) (l : Int), WfRow T cts a ∧ 0 ≤ l ∧ l ≤ 1048576 ∧ args = [argG cts a, .val false [.i .i64 l]]
  res := (szS 0).res
def szSn (e : TypeId) (n : Nat) : FSpec where
  pre args := ∃ (a : List (List D)) (l : Int), SizeOf.sizeOf a < n ∧ 0 ≤ l ∧ l ≤ 1048576 ∧ args = [argS e a, .val false [.i .i64 l]]
  res := (szS 0).res
def szGn (cts : List CT) (n : Nat) : FSpec where
  pre args := ∃ (a : List D) (l : Int), WfRow T cts a ∧ SizeOf.sizeOf a < n ∧ 0 ≤ l ∧ l ≤ 1048576 ∧ args = [argG cts a, .val false [.i .i64 l]]
  res := (szS 0).res
theorem wRow_rowC {cts : List CT} {r : List D} (h : WfRow T cts r) : wRow (csD (rowC cts r)) = wRow r := by rw [csD_rowC h]
theorem wRow_sl (o : Bool) (e : TypeId) (a : List (List D)) : wRow (csD [.sl o e a]) = a.length + wRows a := by simp [csD, CV.d, wRow, wD]
theorem wRows_zero {cts : List CT} : ∀ {a : List (List D)}, (∀ k, k < a.length → WfRow T cts (a.getD k [])) → (∀ r, WfRow T cts r → wRow r = 0) → wRows a = 0
  | [], _, _ => by simp [wRows]
  | r :: rs, h, hz => by
    have h0 := hz r (h 0 (by simp))
    have h1 := wRows_zero (a := rs) (fun k hk => h (k + 1) (by simpa using hk)) hz
    simp [wRows, h0, h1]
theorem resI {x y : Int} (h : x = y) : [CV.i .i64 x] = [CV.i .i64 y] := by rw [h]
end Go.Proofs.Ytidjlboppokloaa.Ab
