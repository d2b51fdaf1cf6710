/- Functions that call themselves, and tables: printed by a program of this -/
import Derived.Test.YtkpnfbdoaljkpaaGreatDoorDVb
namespace Go.Proofs.YtkpnfbdoaljkpaaGreatDoor.Ab
open Go.RowKit
set_option linter.unusedVariables false
set_option linter.unusedSimpArgs false
set_option maxRecDepth 100000
set_option maxHeartbeats 1000000
end Go.Proofs.YtkpnfbdoaljkpaaGreatDoor.Ab
