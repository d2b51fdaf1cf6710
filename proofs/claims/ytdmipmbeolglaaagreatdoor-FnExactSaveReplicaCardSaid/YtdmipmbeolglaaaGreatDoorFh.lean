/- Operations, in plain Lean: when they are valid; their numbers; their words. -/
import Derived.Test.YtdmipmbeolglaaaGreatDoorFg
namespace Go.Proofs.YtdmipmbeolglaaaGreatDoor.Ab
open Go.RowKit
set_option linter.unusedVariables false
def intOf (r : List D) : Int := (r.getD 0 default).int
def seenB (rows : List (List D)) : Bool := rows.all (fun r => inR (intOf r) 0 60) && decide (rows.length = 3)
/-- Cells: time, by, kind, seen, the edit's (kind, at, the cell's id, version, kind, name, code, number), from, to, cell, version, reads. -/
def noEdit (a : List D) : Bool := (a.getD 4 default).int == 0 && ((a.getD 5 default).int == 0 && ((a.getD 6 default).int == 0 && ((a.getD 7 default).int == 0 && ((a.getD 8 default).int == 0 && ((a.getD 9 default).str.toList == (⟨#[]⟩ : ByteArray).toList && ((a.getD 10 default).str.toList == (⟨#[]⟩ : ByteArray).toList && (a.getD 11 default).int == 0))))))
def noNames (a : List D) : Bool := (a.getD 12 default).str.toList == (⟨#[]⟩ : ByteArray).toList && (a.getD 13 default).str.toList == (⟨#[]⟩ : ByteArray).toList
def noTape (a : List D) : Bool := (a.getD 14 default).int == 0 && ((a.getD 15 default).int == 0 && ((a.getD 16 default).rows.length : Int) == 0)
def okOp (a : List D) : Bool := inR (a.getD 0 default).int 1 300 && (inR (a.getD 1 default).int 0 2 && (seenB (a.getD 3 default).rows && (inR (a.getD 2 default).int 1 3 &&
  (if (a.getD 2 default).int = 1 then noNames a && noTape a else if (a.getD 2 default).int = 2 then noEdit a && noTape a else noEdit a && noNames a))))
def spSeen : FSpec where
  pre args := ∃ rows : List (List D), args = [argS 3 rows]
  res args := match args with
    | [.val _ [.sl _ _ rows]] => .val false [.b (seenB rows)]
    | _ => .none
def spOp (T : Tab) (cts : List CT) : FSpec where
  pre args := ∃ a : List D, WfRow T cts a ∧ args = [argG cts a]
  res args := match args with
    | [.val _ cs] => .val false [.b (okOp (csD cs))]
    | _ => .none
/-- All of the first i rows. -/
theorem all_next {p : List D → Bool} {rows : List (List D)} {i : Int} (h0 : 0 ≤ i) (hi : i < rows.length) (h : (rows.take i.toNat).all p = true) (hp : p (rows.getD i.toNat []) = true) : (rows.take (i + 1).toNat).all p = true := by
  have e : (i + 1).toNat = i.toNat + 1 := by omega
  rw [e, List.take_add_one, row_at h0 hi, List.all_append, h]
  simpa using hp
theorem all_stop {p : List D → Bool} {rows : List (List D)} {i : Int} (h0 : 0 ≤ i) (hi : i < rows.length) (hp : p (rows.getD i.toNat []) = false) : rows.all p = false := by
  rw [List.all_eq_false]
  refine ⟨rows.getD i.toNat [], ?_, by rw [hp]; simp⟩
  exact List.mem_of_getElem? (row_at h0 hi)
theorem all_end {p : List D → Bool} {rows : List (List D)} {i : Int} (h0 : 0 ≤ i) (hi : i ≤ rows.length) (hn : decide (i < (rows.length : Int)) = false) (h : (rows.take i.toNat).all p = true) : rows.all p = true := by
  have hn' : ¬ i < (rows.length : Int) := by simpa using hn
  have : i.toNat = rows.length := by omega
  rwa [this, List.take_length] at h
theorem okOp_rowC {cts : List CT} {a : List D} (wa : WfRow T cts a) : okOp (csD (rowC cts a)) = okOp a := by rw [csD_rowC wa]
end Go.Proofs.YtdmipmbeolglaaaGreatDoor.Ab
