/- The walk of the law FnExactNewSession. -/
import Derived.Test.YtidjlboppokloaaNz
import Derived.Test.YtidjlboppokloaaNs
import Derived.Test.YtidjlboppokloaaMq
namespace Go.Proofs.Ytidjlboppokloaa
open Go.RowKit Ab
set_option maxRecDepth 100000
theorem walkFnExactNewSession (W : World) : Calls Try.prog 4 #[] W fun e W' => e = .returned (.bool true) ∧ Below W.heap.size W W' :=
  lawNS _ Ab.ok48 Ab.ns12 Ab.ns13 W
    ⟨fun p hp => absurd (show p ∈ ([] : List _) from hp) List.not_mem_nil, fun p hp => absurd (show p ∈ ([] : List _) from hp) List.not_mem_nil⟩
end Go.Proofs.Ytidjlboppokloaa
