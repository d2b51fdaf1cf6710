/- Laws over a store and an operation: descriptions and sizes. No program in sight. -/
import Derived.Test.YtdmipmbeolglaaaGreatDoorLx
import Derived.Test.YtdmipmbeolglaaaGreatDoorFw
namespace Go.Proofs.YtdmipmbeolglaaaGreatDoor.Ab
open Go.RowKit
set_option linter.unusedVariables false
/-- A law over two structures of two types that always says true. -/
def lawST (T : Tab) (st cts : List CT) : FSpec where
  pre args := ∃ s a : List D, WfRow T st s ∧ WfRow T cts a ∧ args = [argG st s, argG cts a]
  res _ := .val false [.b true]
theorem WfRow.int {cts : List CT} {r : List D} (h : WfRow T cts r) {j : Nat} {k : IntKind} (hj : cts[j]? = some (.i k)) : inK k (r.getD j default).int := by
  have hl : j < r.length := by rw [h.1]; exact (List.getElem?_eq_some_iff.1 hj).1
  have hd : r[j]? = some (r.getD j default) := by simp [List.getD_eq_getElem?_getD, List.getElem?_eq_getElem hl]
  obtain ⟨n, e, hn⟩ := (h.2 j _ _ hj hd).int'
  rw [e]
  exact hn
theorem wf_st {x : ByteArray} {n : Int} (hx : x.size ≤ maxLen) (hn : inK .i64 n) : WfRow T [.s, .i .i64] [.s x, .i n] := by
  refine ⟨rfl, fun j ct d hc hd => ?_⟩
  match j with
  | 0 =>
    obtain rfl : CT.s = ct := by simpa using hc
    obtain rfl : D.s x = d := by simpa using hd
    exact .str x hx
  | 1 =>
    obtain rfl : CT.i .i64 = ct := by simpa using hc
    obtain rfl : D.i n = d := by simpa using hd
    exact .int _ n hn
  | k + 2 => simp at hc
theorem wrD_le {t d : ByteArray} {n : Int} (ht : t.size ≤ 140737488355340) (hd : d.size ≤ 70368744177664) : (wrD t d n).size ≤ maxLen := by
  unfold wrD
  split
  · rw [ByteArray.size_append]
    exact wr_le hd ht
  · simp only [maxLen]; omega
theorem szC2 {r r' : List D} {k : Nat} (h : (wRow r : Int) ≤ 1048576 - k) (hr : r = r') : wRow r' ≤ 1048576 := by
  subst hr
  omega
theorem no_beqB {x : Bool} (h : (!(x == x)) = true) : False := by simp at h
end Go.Proofs.YtdmipmbeolglaaaGreatDoor.Ab
