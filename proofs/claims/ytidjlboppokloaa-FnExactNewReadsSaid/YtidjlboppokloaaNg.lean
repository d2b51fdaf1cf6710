/- New reads of any tapes: a description. No program in sight. -/
import Derived.Test.YtidjlboppokloaaNe
namespace Go.Proofs.Ytidjlboppokloaa.Ab
open Go.RowKit
noncomputable def spNewG (e : TypeId) : FSpec where
  pre args := ∃ a b : List (List D), a.length + wRows a ≤ 1048576 ∧ b.length + wRows b ≤ 1048576 ∧ args = [argS e a, argS e b]
  res args := match args with
    | [.val _ [.sl _ _ a], .val _ [.sl _ _ b]] => .val false [.sl true e (newR a b)]
    | _ => .none
end Go.Proofs.Ytidjlboppokloaa.Ab
