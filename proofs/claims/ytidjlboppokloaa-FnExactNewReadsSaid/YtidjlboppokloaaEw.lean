/- Weights of parts of data. No program in sight. -/
import Derived.Test.YtidjlboppokloaaTs
namespace Go.Proofs.Ytidjlboppokloaa.Ab
open Go.RowKit
set_option linter.unusedVariables false
theorem wD_default : wD default = 0 := by rfl
theorem wCell_le : ∀ (a : List D) (j : Nat), wD (a.getD j default) ≤ wRow a
  | [], j => by rw [List.getD_nil, wD_default]; exact Nat.zero_le _
  | d :: r, 0 => by rw [List.getD_cons_zero]; simp only [wRow]; omega
  | d :: r, j + 1 => by rw [List.getD_cons_succ]; have := wCell_le r j; simp only [wRow]; omega
theorem wD_rows (d : D) : d.rows.length + wRows d.rows ≤ wD d := by
  cases d <;> simp [D.rows, wD, wRows]
theorem wD_str (d : D) : d.str.size ≤ wD d := by
  cases d with
  | s x => exact Nat.le_refl _
  | _ => exact Nat.zero_le _
theorem wRows_cell (a : List D) (j : Nat) : (a.getD j default).rows.length + wRows (a.getD j default).rows ≤ wRow a := Nat.le_trans (wD_rows _) (wCell_le a j)
theorem wStr_cell (a : List D) (j : Nat) : (a.getD j default).str.size ≤ wRow a := Nat.le_trans (wD_str _) (wCell_le a j)
theorem wRow_append : ∀ (a b : List D), wRow (a ++ b) = wRow a + wRow b
  | [], b => by simp [wRow]
  | d :: r, b => by simp only [List.cons_append, wRow, wRow_append r b]; omega
theorem wSub_eq : ∀ (n k : Nat) (a : List D), k + n ≤ a.length → sub a k n = (a.drop k).take n := by
  intro n k a h
  refine List.ext_getElem? fun i => ?_
  unfold sub
  rw [List.getElem?_map]
  by_cases hi : i < n
  · rw [List.getElem?_range hi, List.getElem?_take, if_pos hi, List.getElem?_drop, Option.map_some, List.getD_eq_getElem?_getD, List.getElem?_eq_getElem (by omega)]
    rfl
  · rw [List.getElem?_eq_none (by simp; omega), List.getElem?_eq_none (by simp; omega)]
    rfl
theorem wSub_le {a : List D} {k n : Nat} (h : k + n ≤ a.length) : wRow (sub a k n) ≤ wRow a := by
  rw [wSub_eq n k a h]
  have h1 := wRow_append (a.take k) (a.drop k)
  have h2 := wRow_append ((a.drop k).take n) ((a.drop k).drop n)
  rw [List.take_append_drop] at h1 h2
  omega
theorem wSubC_le {cts : List CT} {a : List D} (k n : Nat) (wa : WfRow T cts a) (hk : k + n ≤ cts.length) (hw : wRow (csD (rowC cts a)) ≤ 1048576) : wRow (csD (rowC ((cts.drop k).take n) (sub a k n))) ≤ 1048576 := by
  rw [wRow_rowC (wa.sub k n hk)]
  rw [wRow_rowC wa] at hw
  exact Nat.le_trans (wSub_le (by rw [wa.1]; exact hk)) hw
theorem wCellC_le {cts : List CT} {a : List D} (wa : WfRow T cts a) (hw : wRow (csD (rowC cts a)) ≤ 1048576) (j : Nat) : (a.getD j default).rows.length + wRows (a.getD j default).rows ≤ 1048576 := by
  rw [wRow_rowC wa] at hw
  exact Nat.le_trans (wRows_cell a j) hw
end Go.Proofs.Ytidjlboppokloaa.Ab
