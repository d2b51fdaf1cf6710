/- Records of operations: printed by a program of this -/
import Derived.Test.YtkpnfbdoaljkpaaGreatDoorDPB
import Derived.Test.YtkpnfbdoaljkpaaGreatDoorDFe
import Derived.Test.YtkpnfbdoaljkpaaGreatDoorDFa
import Derived.Test.YtkpnfbdoaljkpaaGreatDoorDSh
import Derived.Lib.HexFns
import Derived.Lib.ConvBytes
import Derived.Laws.IdiomStrings
import Derived.Deep.RegionHeld3
import Derived.Deep.AppendLies
import Derived.StillTactics
import Derived.OwnWalk
import Derived.IntWalk
import Derived.Test.YtkpnfbdoaljkpaaGreatDoorDFh
import Derived.WalkLawsBesides
namespace Go.Proofs.YtkpnfbdoaljkpaaGreatDoor.Ab
open Go.RowKit
set_option linter.unusedVariables false
set_option linter.unusedSimpArgs false
set_option maxRecDepth 100000
set_option maxHeartbeats 1000000
end Go.Proofs.YtkpnfbdoaljkpaaGreatDoor.Ab
namespace Go.Proofs.YtkpnfbdoaljkpaaGreatDoor
open Go.ChangeShapes Go.WideShapes Go.ChangeAt Go.RowKit
set_option maxRecDepth 200000
theorem bytesW_below (w:World) (e:TypeId) (s:ByteArray):Below w.heap.size w (Lib.bytesWorld w e s) :=
  ⟨rfl,rfl,rfl,by rw [Lib.bytesWorld_size];omega,fun k hk=>Lib.bytesWorld_at_old w e s k hk⟩
end Go.Proofs.YtkpnfbdoaljkpaaGreatDoor
