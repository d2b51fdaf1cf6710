/-
  No cell of these rows narrows 'for every input' (looked for: loops, veiled, ifaces, maps, wideKeys, modest, calm, conditions, laid).
  DERIVED. THE GIVEN ROWS OF THIS SEAT. 2 by the template 'for every input the law returns true; each argument reads behind the call as it read before'; 0 by the template 'total and deterministic' (their statements: YtodddilaniojgaaGreatTotals.lean).
  GIVEN WITH THE SEED: the statements are not yours to turn. If you find one false, say at which input.
  Laid BY PROGRAM, IN A SANDBOX (cutbox-rows.mjs): the forced cells as the released guide's own fill.sh prints them over the translation f83d196ef8604a90… (all of the seat's roots in one cut). By AI agents, Wed Nov 11 2026. No macro, syntax, notation, axiom, sorry.
-/
import Derived.Test.YtodddilaniojgaaGreatChecked
import GoSem.Claim
import GoSem.ClaimJoined
import GoSem.ClaimMapViews
import Derived.JoinedTies
import Derived.KernelRfl
namespace Go.Proofs.YtodddilaniojgaaGreat
/- THE CELL 'sum', in the pinned program and in every row, IS THE sha256 OF THE DUMP (.gsa) THAT YtodddilaniojgaaGreatProg.lean LOADS. Nothing in Lean hashes anything: it is a label: what it is worth is what the hold of that sum in a sandbox is worth. -/
noncomputable def Tryz.pinned : Pinned := { name := "ytodddilaniojgaagreat", sum := "f83d196ef8604a902f789eca33004b3f6ef7c3444337d95ea2d305a04d16ee14", checked := Tryz.checked }
namespace Rows
def none {H : Type} : Left H := { results := [], args := [] }

/-- 'laws.FnHistory': WHATEVER THE INPUT: true; the input reads as it did. -/
def fnHistorySpec : ChangeSpec := { name := "fnHistory", fn := fun _ => fun
  | [d] => { results := [.lit (.bool true)], args := [d] }
  | _ => none }
def fnHistoryRow : OpenClaim := { program := "ytodddilaniojgaagreat", sum := "f83d196ef8604a902f789eca33004b3f6ef7c3444337d95ea2d305a04d16ee14", func := "loop.example/g00510/laws.FnHistory", spec := "fnHistory", recurses := true, apart := false }
def FnHistorySaid : Prop := fnHistoryRow.holds Tryz.pinned (OpenSpec.ofChange fnHistorySpec)

/-- ITS FALSE NEIGHBOUR: 'it returns false'. Refute it at one input. -/
def fnHistoryWrong : ChangeSpec := { name := "fnHistory", fn := fun _ => fun
  | [d] => { results := [.lit (.bool false)], args := [d] }
  | _ => none }
def FnHistoryWrongFalsely : Prop := fnHistoryRow.holds Tryz.pinned (OpenSpec.ofChange fnHistoryWrong)

/-- 'laws.FnGoTo': WHATEVER THE INPUT: true; the input reads as it did. -/
def fnGoToSpec : ChangeSpec := { name := "fnGoTo", fn := fun _ => fun
  | [d] => { results := [.lit (.bool true)], args := [d] }
  | _ => none }
def fnGoToRow : OpenClaim := { program := "ytodddilaniojgaagreat", sum := "f83d196ef8604a902f789eca33004b3f6ef7c3444337d95ea2d305a04d16ee14", func := "loop.example/g00510/laws.FnGoTo", spec := "fnGoTo", recurses := true, apart := false }
def FnGoToSaid : Prop := fnGoToRow.holds Tryz.pinned (OpenSpec.ofChange fnGoToSpec)

/-- ITS FALSE NEIGHBOUR: 'it returns false'. Refute it at one input. -/
def fnGoToWrong : ChangeSpec := { name := "fnGoTo", fn := fun _ => fun
  | [d] => { results := [.lit (.bool false)], args := [d] }
  | _ => none }
def FnGoToWrongFalsely : Prop := fnGoToRow.holds Tryz.pinned (OpenSpec.ofChange fnGoToWrong)

/- THE SECOND FORM. 'bulk': how many values and letters a reading holds, each counted each time it is reached (what is shared counts as often as it is met; a slice's spare places count too). A statement '..UptoSaid' is the law's where the arguments, and the package variables that the reading takes, are together of bulk at most 1048576: NARROWER than '..Said'. Prove '..Said' where nothing that the law and all that it calls make is longer than what came in: it says more and counts as full. Else prove '..UptoSaid'. A law counts once. -/
mutual
def uptoBulk {H : Type} : DataW H → Nat
  | .lit (.string bytes) => bytes.length + 1
  | .lit _ => 1
  | .nil => 1
  | .ptr d => uptoBulk d + 1
  | .slice elems spare => uptoBulkAll elems + uptoBulkAll spare + 1
  | .agg parts => uptoBulkAll parts + 1
  | .iface _ d => uptoBulk d + 1
  | .map entries => uptoBulkEntries entries + 1
  | .held _ => 1
def uptoBulkAll {H : Type} : List (DataW H) → Nat
  | [] => 0
  | d :: r => uptoBulk d + uptoBulkAll r
def uptoBulkEntries {H : Type} : List (Lit × DataW H) → Nat
  | [] => 0
  | x :: r => uptoBulkEntry x + uptoBulkEntries r
def uptoBulkEntry {H : Type} : Lit × DataW H → Nat
  | (.string bytes, d) => bytes.length + uptoBulk d + 1
  | (_, d) => uptoBulk d + 1
 end
def uptoSmall : (H : Type) → List (DataW H) → Bool := fun _ ds => decide (uptoBulkAll ds ≤ 1048576)
def OpenSpec.upto (s : _root_.Go.ChangeSpec) : _root_.Go.OpenSpec := { _root_.Go.OpenSpec.ofChange s with cond := some uptoSmall }

/-- 'laws.FnHistory', WHERE WHAT IT READS IS OF BULK AT MOST 1048576: true; the input reads as it did. -/
def fnHistoryUptoRow : OpenClaim := { program := "ytodddilaniojgaagreat", sum := "f83d196ef8604a902f789eca33004b3f6ef7c3444337d95ea2d305a04d16ee14", func := "loop.example/g00510/laws.FnHistory", spec := "fnHistory", recurses := true, apart := false, narrowed := true }
def FnHistoryUptoSaid : Prop := fnHistoryUptoRow.holds Tryz.pinned (OpenSpec.upto fnHistorySpec)

/-- 'laws.FnGoTo', WHERE WHAT IT READS IS OF BULK AT MOST 1048576: true; the input reads as it did. -/
def fnGoToUptoRow : OpenClaim := { program := "ytodddilaniojgaagreat", sum := "f83d196ef8604a902f789eca33004b3f6ef7c3444337d95ea2d305a04d16ee14", func := "loop.example/g00510/laws.FnGoTo", spec := "fnGoTo", recurses := true, apart := false, narrowed := true }
def FnGoToUptoSaid : Prop := fnGoToUptoRow.holds Tryz.pinned (OpenSpec.upto fnGoToSpec)

end Rows
end Go.Proofs.YtodddilaniojgaaGreat
