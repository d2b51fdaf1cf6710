/- Plain facts: the checksum of a list of bytes, and the bit operations at numbers below -/
import Derived.Laws.Bits64
import Derived.Laws.BitsAll
import Derived.Laws.BitsAllLaws
import Derived.Test.YtkpnfbdoaljkpaaGreatDoorDFa
import Derived.IntWalk
import Derived.Test.YtkpnfbdoaljkpaaGreatDoorDFh
import Derived.Test.YtkpnfbdoaljkpaaGreatDoorDLx
namespace Go.Proofs.YtkpnfbdoaljkpaaGreatDoor
end Go.Proofs.YtkpnfbdoaljkpaaGreatDoor
namespace Go.Proofs.YtkpnfbdoaljkpaaGreatDoor
open Go.ChangeShapes Go.WideShapes Go.ChangeAt Go.RowKit
end Go.Proofs.YtkpnfbdoaljkpaaGreatDoor
namespace Go.Proofs.YtkpnfbdoaljkpaaGreatDoor.Ab
open Go.RowKit
set_option linter.unusedVariables false
section
variable {P:Program} {T:Tab} {f:FuncId}
end
end Go.Proofs.YtkpnfbdoaljkpaaGreatDoor.Ab
