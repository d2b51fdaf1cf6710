/- Laws over one structure, and the smallness of operations from their weight. No program in sight. -/
import Derived.Test.YtdmipmbeolglaaaGreatDoorLw
import Derived.Test.YtdmipmbeolglaaaGreatDoorEw
import Derived.Test.YtdmipmbeolglaaaGreatDoorFk
namespace Go.Proofs.YtdmipmbeolglaaaGreatDoor.Ab
open Go.RowKit
set_option linter.unusedVariables false
variable {T : Tab}
/-- A law over one structure that always says true. -/
def lawG1 (T : Tab) (cts : List CT) : FSpec where
  pre args := ∃ a : List D, WfRow T cts a ∧ args = [argG cts a]
  res _ := .val false [.b true]
theorem smO {a : List D} (hw : wRow a ≤ 1048576) : SmO a := by
  have h3 := wRows_cell a 3
  have h16 := wRows_cell a 16
  have s9 := wStr_cell a 9
  have s10 := wStr_cell a 10
  have s12 := wStr_cell a 12
  have s13 := wStr_cell a 13
  refine ⟨by omega, by unfold rds; omega, ⟨by omega, by omega, by omega, by omega⟩, fun i hi => ?_⟩
  have hr := wRow_le hi
  have r3 := wStr_cell ((rds a).getD i []) 3
  have r9 := wRows_cell ((rds a).getD i []) 9
  have r10 := wRows_cell ((rds a).getD i []) 10
  have hq : wRows (rds a) ≤ wRow a := by unfold rds; omega
  generalize wRows (rds a) = q at hq hr
  omega
/-- A text of a structure that meets Sm. -/
def spTx (T : Tab) (cts : List CT) (Sm : List D → Prop) (g : List D → ByteArray) : FSpec where
  pre args := ∃ a : List D, WfRow T cts a ∧ Sm a ∧ args = [argG cts a]
  res args := match args with
    | [.val _ cs] => .val false [.s (g (csD cs))]
    | _ => .none
theorem no_txt {x : ByteArray} (h : (!(x.toList == x.toList)) = true) : False := by simp at h
theorem szC {r r' : List D} (h : (wRow r : Int) ≤ 1048576) (hr : r = r') : wRow r' ≤ 1048576 := by
  subst hr
  omega
end Go.Proofs.YtdmipmbeolglaaaGreatDoor.Ab
