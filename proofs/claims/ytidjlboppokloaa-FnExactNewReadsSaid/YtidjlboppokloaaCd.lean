/- Descriptions of deep copies: a structure's copy is as it was; a slice's copy is new. No program in sight. -/
import Derived.Test.YtidjlboppokloaaEw
import Derived.Test.YtidjlboppokloaaVd
namespace Go.Proofs.Ytidjlboppokloaa.Ab
open Go.RowKit
set_option linter.unusedVariables false
def cpG (T : Tab) (cts : List CT) : FSpec where
  pre args := ∃ a : List D, WfRow T cts a ∧ wRow a ≤ 1048576 ∧ args = [argG cts a]
  res args := match args with
    | [a] => a
    | _ => .none
def cpGn (T : Tab) (cts : List CT) (n : Nat) : FSpec where
  pre args := ∃ a : List D, WfRow T cts a ∧ SizeOf.sizeOf a < n ∧ wRow a ≤ 1048576 ∧ args = [argG cts a]
  res := (cpG T cts).res
def cpS (e : TypeId) : FSpec where
  pre args := ∃ a : List (List D), a.length + wRows a ≤ 1048576 ∧ args = [argS e a]
  res args := match args with
    | [.val _ [.sl _ _ a]] => .val false [.sl true e a]
    | _ => .none
def cpSn (e : TypeId) (n : Nat) : FSpec where
  pre args := ∃ a : List (List D), SizeOf.sizeOf a < n ∧ a.length + wRows a ≤ 1048576 ∧ args = [argS e a]
  res := (cpS e).res
theorem take_app {a : List (List D)} {i : Int} (h0 : 0 ≤ i) (hi : i < a.length) {r : List D} (hr : r = a.getD i.toNat []) : a.take i.toNat ++ [r] = a.take (i + 1).toNat := by
  have e : (i + 1).toNat = i.toNat + 1 := by omega
  rw [e, List.take_add_one, row_at h0 hi, hr]
  rfl
theorem take_all {a : List (List D)} {i : Int} (h0 : 0 ≤ i) (hi : i ≤ a.length) (h : decide (i < (a.length : Int)) = false) : a.take i.toNat = a := by
  have : ¬ i < (a.length : Int) := of_decide_eq_false h
  rw [show i.toNat = a.length by omega, List.take_length]
theorem take_len {a : List (List D)} {i : Int} (h0 : 0 ≤ i) (hi : i ≤ a.length) : (a.take i.toNat).length = i.toNat := by
  rw [List.length_take, Nat.min_eq_left (by omega)]
theorem wCellR_le {a : List D} (hw : wRow a ≤ 1048576) (j : Nat) : (a.getD j default).rows.length + wRows (a.getD j default).rows ≤ 1048576 := Nat.le_trans (wRows_cell a j) hw
theorem wSubR_le {T : Tab} {cts : List CT} {a : List D} (k n : Nat) (wa : WfRow T cts a) (hk : k + n ≤ cts.length) (hw : wRow a ≤ 1048576) : wRow (sub a k n) ≤ 1048576 := Nat.le_trans (wSub_le (by rw [wa.1]; exact hk)) hw
theorem snapT (f : List (List D) → Int → Snap) {r r' : List (List D)} {a b : Int} (h : r = r') (h2 : a = b) : f r a = f r' b := by rw [h, h2]
theorem resSl {e : TypeId} {a b : List (List D)} (h : a = b) : [CV.sl true e a] = [CV.sl true e b] := by rw [h]
end Go.Proofs.Ytidjlboppokloaa.Ab
