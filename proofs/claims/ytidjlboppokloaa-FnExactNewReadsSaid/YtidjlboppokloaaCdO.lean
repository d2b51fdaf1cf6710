/- Deep copies that own all that they lead to: descriptions. No program in sight. -/
import Derived.Test.YtidjlboppokloaaCd
import Derived.Test.YtidjlboppokloaaTsO
namespace Go.Proofs.Ytidjlboppokloaa.Ab
open Go.RowKit
set_option linter.unusedVariables false
def cpGO (T : Tab) (cts : List CT) : FSpec where
  pre := (cpG T cts).pre
  res args := match args with
    | [.val _ cs] => .val true (rowO cts (csD cs))
    | _ => .none
def cpGOn (T : Tab) (cts : List CT) (n : Nat) : FSpec where
  pre := (cpGn T cts n).pre
  res := (cpGO T cts).res
def cpSO (e : TypeId) : FSpec where
  pre := (cpS e).pre
  res args := match args with
    | [.val _ [.sl _ _ a]] => .val false [.sl true e a]
    | _ => .none
def cpSOn (e : TypeId) (n : Nat) : FSpec where
  pre := (cpSn e n).pre
  res := (cpSO e).res
end Go.Proofs.Ytidjlboppokloaa.Ab
