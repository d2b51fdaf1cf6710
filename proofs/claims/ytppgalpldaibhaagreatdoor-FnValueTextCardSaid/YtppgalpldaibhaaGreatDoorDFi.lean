/- Operations checked: printed by a program of this claim. And what belongs to it. -/
import Derived.Test.YtppgalpldaibhaaGreatDoorDVc
import Derived.Test.YtppgalpldaibhaaGreatDoorDFd
namespace Go.Proofs.YtppgalpldaibhaaGreatDoor.Ab
open Go.RowKit
set_option linter.unusedVariables false
set_option linter.unusedSimpArgs false
set_option maxRecDepth 100000
set_option maxHeartbeats 1000000
end Go.Proofs.YtppgalpldaibhaaGreatDoor.Ab
