/- Descriptions of laws over data, and what their proofs share. -/
import Derived.Test.YtdmipmbeolglaaaGreatDoorEc
import Derived.Test.YtdmipmbeolglaaaGreatDoorEj
import Derived.Test.YtdmipmbeolglaaaGreatDoorBr
namespace Go.Proofs.YtdmipmbeolglaaaGreatDoor.Ab
open Go.RowKit
/-- A law over two structures that always says true. -/
def lawG2 (T : Tab) (cts : List CT) : FSpec where
  pre args := ∃ a b : List D, WfRow T cts a ∧ WfRow T cts b ∧ args = [argG cts a, argG cts b]
  res _ := .val false [.b true]
theorem szA {l : Int} {w : Nat} (h : decide (szR l w < 0) = false) (hl : l ≤ 1048576) : w ≤ 1048576 ∧ szR l w ≤ 1048576 ∧ 0 ≤ szR l w := by
  obtain ⟨h1, h2⟩ := szR_yes h
  have h3 : ¬ szR l w < 0 := by simpa using h
  omega
theorem szB {l : Int} {r r' : List D} (h : decide (szR l (wRow r) < 0) = false) (hr : r = r') (hl : l ≤ 1048576) : wRow r' ≤ 1048576 ∧ szR l (wRow r) ≤ 1048576 ∧ 0 ≤ szR l (wRow r) := by
  subst hr
  exact szA h hl
theorem no_bne {x : Bool} (h : (x != x) = true) : False := by simp at h
theorem no_not {x : List D} (h : (!decide (x = x)) = true) : False := by simp at h
end Go.Proofs.YtdmipmbeolglaaaGreatDoor.Ab
