/- The smallness of operations from their weight; texts of structures. No program in -/
import Derived.Test.YtkpnfbdoaljkpaaGreatDoorDEs
import Derived.Test.YtkpnfbdoaljkpaaGreatDoorDFh
import Derived.Test.YtkpnfbdoaljkpaaGreatDoorDZa
namespace Go.Proofs.YtkpnfbdoaljkpaaGreatDoor.Ab
open Go.RowKit
set_option linter.unusedVariables false
variable {T:Tab}
end Go.Proofs.YtkpnfbdoaljkpaaGreatDoor.Ab
namespace Go.Proofs.YtkpnfbdoaljkpaaGreatDoor.Ab
open Go.RowKit
set_option linter.unusedVariables false
variable {T:Tab}
section
variable (pv:ByteArray→List D × Bool) (rows:List (List D))
end
def spPV2 (cts:List CT) (pv:ByteArray→List D × Bool):FSpec where
  pre args:=∃ s:ByteArray,s.size≤1048576∧args=[sArg s]
  res args:=match args with
    | [.val _ [.s s]]=>.tup [(true,rowC cts (pv s).1),(false,[.b (pv s).2])]
    | _=>.none
theorem FOk.pv2 {P:Program} {f:FuncId} {cts:List CT} {n:Nat} {pv:ByteArray→List D × Bool} (hn:1048577≤n) (h:FOk P T f (spPV cts n pv)):FOk P T f (spPV2 cts pv):=by
  refine ⟨h.call,fun hb=>(by cases hb),fun _ w X args vals a1 a2 a3 hpre=>?_,fun hb=>(by cases hb)⟩
  obtain ⟨s,hs,he⟩:=hpre
  exact h.ok rfl w X args vals a1 a2 a3 ⟨s,hs,by omega,he⟩
end Go.Proofs.YtkpnfbdoaljkpaaGreatDoor.Ab
