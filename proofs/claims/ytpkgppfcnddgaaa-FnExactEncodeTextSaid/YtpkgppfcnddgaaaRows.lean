/-
  No cell of these rows narrows 'for every input' (looked for: loops, veiled, ifaces, maps, wideKeys, modest, calm, conditions, laid).
  DERIVED. THE GIVEN ROWS OF THIS SEAT. 6 by the template 'for every input the law returns true; each argument reads behind the call as it read before'; 0 by the template 'total and deterministic' (their statements: YtpkgppfcnddgaaaTotals.lean).
  GIVEN WITH THE SEED: the statements are not yours to turn. If you find one false, say at which input.
  Laid BY PROGRAM, IN A SANDBOX (cutbox-rows.mjs): the forced cells as the released guide's own fill.sh prints them over the translation b4ccecc2f276c558… (all of the seat's roots in one cut). By AI agents, Wed Nov 11 2026. No macro, syntax, notation, axiom, sorry.
-/
import Derived.Test.YtpkgppfcnddgaaaChecked
import GoSem.Claim
import GoSem.ClaimJoined
import GoSem.ClaimMapViews
import Derived.JoinedTies
import Derived.KernelRfl
namespace Go.Proofs.Ytpkgppfcnddgaaa
/- THE CELL 'sum', in the pinned program and in every row, IS THE sha256 OF THE DUMP (.gsa) THAT YtpkgppfcnddgaaaProg.lean LOADS. Nothing in Lean hashes anything: it is a label: what it is worth is what the hold of that sum in a sandbox is worth. -/
noncomputable def Try.pinned : Pinned := { name := "ytpkgppfcnddgaaa", sum := "b4ccecc2f276c55864c0645a024df8524cbce66363c3580a8c1e56e449a5863c", checked := Try.checked }
namespace Rows
def none {H : Type} : Left H := { results := [], args := [] }

/-- 'laws.FnExactEditName': WHATEVER THE INPUT: true; the input reads as it did. -/
def fnExactEditNameSpec : ChangeSpec := { name := "fnExactEditName", fn := fun _ => fun
  | [d] => { results := [.lit (.bool true)], args := [d] }
  | _ => none }
def fnExactEditNameRow : OpenClaim := { program := "ytpkgppfcnddgaaa", sum := "b4ccecc2f276c55864c0645a024df8524cbce66363c3580a8c1e56e449a5863c", func := "loop.example/g00510/laws.FnExactEditName", spec := "fnExactEditName", apart := false }
def FnExactEditNameSaid : Prop := fnExactEditNameRow.holds Try.pinned (OpenSpec.ofChange fnExactEditNameSpec)

/-- ITS FALSE NEIGHBOUR: 'it returns false'. Refute it at one input. -/
def fnExactEditNameWrong : ChangeSpec := { name := "fnExactEditName", fn := fun _ => fun
  | [d] => { results := [.lit (.bool false)], args := [d] }
  | _ => none }
def FnExactEditNameWrongFalsely : Prop := fnExactEditNameRow.holds Try.pinned (OpenSpec.ofChange fnExactEditNameWrong)

/-- 'laws.FnExactIsValidStore': WHATEVER THE INPUT: true; the input reads as it did. -/
def fnExactIsValidStoreSpec : ChangeSpec := { name := "fnExactIsValidStore", fn := fun _ => fun
  | [d] => { results := [.lit (.bool true)], args := [d] }
  | _ => none }
def fnExactIsValidStoreRow : OpenClaim := { program := "ytpkgppfcnddgaaa", sum := "b4ccecc2f276c55864c0645a024df8524cbce66363c3580a8c1e56e449a5863c", func := "loop.example/g00510/laws.FnExactIsValidStore", spec := "fnExactIsValidStore", apart := false }
def FnExactIsValidStoreSaid : Prop := fnExactIsValidStoreRow.holds Try.pinned (OpenSpec.ofChange fnExactIsValidStoreSpec)

/-- ITS FALSE NEIGHBOUR: 'it returns false'. Refute it at one input. -/
def fnExactIsValidStoreWrong : ChangeSpec := { name := "fnExactIsValidStore", fn := fun _ => fun
  | [d] => { results := [.lit (.bool false)], args := [d] }
  | _ => none }
def FnExactIsValidStoreWrongFalsely : Prop := fnExactIsValidStoreRow.holds Try.pinned (OpenSpec.ofChange fnExactIsValidStoreWrong)

/-- 'laws.FnExactSyncStore': WHATEVER THE INPUT: true; the input reads as it did. -/
def fnExactSyncStoreSpec : ChangeSpec := { name := "fnExactSyncStore", fn := fun _ => fun
  | [d] => { results := [.lit (.bool true)], args := [d] }
  | _ => none }
def fnExactSyncStoreRow : OpenClaim := { program := "ytpkgppfcnddgaaa", sum := "b4ccecc2f276c55864c0645a024df8524cbce66363c3580a8c1e56e449a5863c", func := "loop.example/g00510/laws.FnExactSyncStore", spec := "fnExactSyncStore", apart := false }
def FnExactSyncStoreSaid : Prop := fnExactSyncStoreRow.holds Try.pinned (OpenSpec.ofChange fnExactSyncStoreSpec)

/-- ITS FALSE NEIGHBOUR: 'it returns false'. Refute it at one input. -/
def fnExactSyncStoreWrong : ChangeSpec := { name := "fnExactSyncStore", fn := fun _ => fun
  | [d] => { results := [.lit (.bool false)], args := [d] }
  | _ => none }
def FnExactSyncStoreWrongFalsely : Prop := fnExactSyncStoreRow.holds Try.pinned (OpenSpec.ofChange fnExactSyncStoreWrong)

/-- 'laws.FnExactChecksum': WHATEVER THE INPUT: true; the input reads as it did. -/
def fnExactChecksumSpec : ChangeSpec := { name := "fnExactChecksum", fn := fun _ => fun
  | [d] => { results := [.lit (.bool true)], args := [d] }
  | _ => none }
def fnExactChecksumRow : OpenClaim := { program := "ytpkgppfcnddgaaa", sum := "b4ccecc2f276c55864c0645a024df8524cbce66363c3580a8c1e56e449a5863c", func := "loop.example/g00510/laws.FnExactChecksum", spec := "fnExactChecksum", apart := false }
def FnExactChecksumSaid : Prop := fnExactChecksumRow.holds Try.pinned (OpenSpec.ofChange fnExactChecksumSpec)

/-- ITS FALSE NEIGHBOUR: 'it returns false'. Refute it at one input. -/
def fnExactChecksumWrong : ChangeSpec := { name := "fnExactChecksum", fn := fun _ => fun
  | [d] => { results := [.lit (.bool false)], args := [d] }
  | _ => none }
def FnExactChecksumWrongFalsely : Prop := fnExactChecksumRow.holds Try.pinned (OpenSpec.ofChange fnExactChecksumWrong)

/-- 'laws.FnExactEncodeText': WHATEVER THE INPUT: true; the input reads as it did. -/
def fnExactEncodeTextSpec : ChangeSpec := { name := "fnExactEncodeText", fn := fun _ => fun
  | [d] => { results := [.lit (.bool true)], args := [d] }
  | _ => none }
def fnExactEncodeTextRow : OpenClaim := { program := "ytpkgppfcnddgaaa", sum := "b4ccecc2f276c55864c0645a024df8524cbce66363c3580a8c1e56e449a5863c", func := "loop.example/g00510/laws.FnExactEncodeText", spec := "fnExactEncodeText", apart := false }
def FnExactEncodeTextSaid : Prop := fnExactEncodeTextRow.holds Try.pinned (OpenSpec.ofChange fnExactEncodeTextSpec)

/-- ITS FALSE NEIGHBOUR: 'it returns false'. Refute it at one input. -/
def fnExactEncodeTextWrong : ChangeSpec := { name := "fnExactEncodeText", fn := fun _ => fun
  | [d] => { results := [.lit (.bool false)], args := [d] }
  | _ => none }
def FnExactEncodeTextWrongFalsely : Prop := fnExactEncodeTextRow.holds Try.pinned (OpenSpec.ofChange fnExactEncodeTextWrong)

/-- 'laws.FnExactCrashStore': WHATEVER THE INPUT: true; the input reads as it did. -/
def fnExactCrashStoreSpec : ChangeSpec := { name := "fnExactCrashStore", fn := fun _ => fun
  | [d1, d2] => { results := [.lit (.bool true)], args := [d1, d2] }
  | _ => none }
def fnExactCrashStoreRow : OpenClaim := { program := "ytpkgppfcnddgaaa", sum := "b4ccecc2f276c55864c0645a024df8524cbce66363c3580a8c1e56e449a5863c", func := "loop.example/g00510/laws.FnExactCrashStore", spec := "fnExactCrashStore", apart := false }
def FnExactCrashStoreSaid : Prop := fnExactCrashStoreRow.holds Try.pinned (OpenSpec.ofChange fnExactCrashStoreSpec)

/-- ITS FALSE NEIGHBOUR: 'it returns false'. Refute it at one input. -/
def fnExactCrashStoreWrong : ChangeSpec := { name := "fnExactCrashStore", fn := fun _ => fun
  | [d1, d2] => { results := [.lit (.bool false)], args := [d1, d2] }
  | _ => none }
def FnExactCrashStoreWrongFalsely : Prop := fnExactCrashStoreRow.holds Try.pinned (OpenSpec.ofChange fnExactCrashStoreWrong)

/- THE SECOND FORM. 'bulk': how many values and letters a reading holds, each counted each time it is reached (what is shared counts as often as it is met; a slice's spare places count too). A statement '..UptoSaid' is the law's where the arguments, and the package variables that the reading takes, are together of bulk at most 1048576: NARROWER than '..Said'. Prove '..Said' where nothing that the law and all that it calls make is longer than what came in: it says more and counts as full. Else prove '..UptoSaid'. A law counts once. -/
mutual
def uptoBulk {H : Type} : DataW H → Nat
  | .lit (.string bytes) => bytes.length + 1
  | .lit _ => 1
  | .nil => 1
  | .ptr d => uptoBulk d + 1
  | .slice elems spare => uptoBulkAll elems + uptoBulkAll spare + 1
  | .agg parts => uptoBulkAll parts + 1
  | .iface _ d => uptoBulk d + 1
  | .map entries => uptoBulkEntries entries + 1
  | .held _ => 1
def uptoBulkAll {H : Type} : List (DataW H) → Nat
  | [] => 0
  | d :: r => uptoBulk d + uptoBulkAll r
def uptoBulkEntries {H : Type} : List (Lit × DataW H) → Nat
  | [] => 0
  | x :: r => uptoBulkEntry x + uptoBulkEntries r
def uptoBulkEntry {H : Type} : Lit × DataW H → Nat
  | (.string bytes, d) => bytes.length + uptoBulk d + 1
  | (_, d) => uptoBulk d + 1
 end
def uptoSmall : (H : Type) → List (DataW H) → Bool := fun _ ds => decide (uptoBulkAll ds ≤ 1048576)
def OpenSpec.upto (s : _root_.Go.ChangeSpec) : _root_.Go.OpenSpec := { _root_.Go.OpenSpec.ofChange s with cond := some uptoSmall }

/-- 'laws.FnExactEditName', WHERE WHAT IT READS IS OF BULK AT MOST 1048576: true; the input reads as it did. -/
def fnExactEditNameUptoRow : OpenClaim := { program := "ytpkgppfcnddgaaa", sum := "b4ccecc2f276c55864c0645a024df8524cbce66363c3580a8c1e56e449a5863c", func := "loop.example/g00510/laws.FnExactEditName", spec := "fnExactEditName", apart := false, narrowed := true }
def FnExactEditNameUptoSaid : Prop := fnExactEditNameUptoRow.holds Try.pinned (OpenSpec.upto fnExactEditNameSpec)

/-- 'laws.FnExactIsValidStore', WHERE WHAT IT READS IS OF BULK AT MOST 1048576: true; the input reads as it did. -/
def fnExactIsValidStoreUptoRow : OpenClaim := { program := "ytpkgppfcnddgaaa", sum := "b4ccecc2f276c55864c0645a024df8524cbce66363c3580a8c1e56e449a5863c", func := "loop.example/g00510/laws.FnExactIsValidStore", spec := "fnExactIsValidStore", apart := false, narrowed := true }
def FnExactIsValidStoreUptoSaid : Prop := fnExactIsValidStoreUptoRow.holds Try.pinned (OpenSpec.upto fnExactIsValidStoreSpec)

/-- 'laws.FnExactSyncStore', WHERE WHAT IT READS IS OF BULK AT MOST 1048576: true; the input reads as it did. -/
def fnExactSyncStoreUptoRow : OpenClaim := { program := "ytpkgppfcnddgaaa", sum := "b4ccecc2f276c55864c0645a024df8524cbce66363c3580a8c1e56e449a5863c", func := "loop.example/g00510/laws.FnExactSyncStore", spec := "fnExactSyncStore", apart := false, narrowed := true }
def FnExactSyncStoreUptoSaid : Prop := fnExactSyncStoreUptoRow.holds Try.pinned (OpenSpec.upto fnExactSyncStoreSpec)

/-- 'laws.FnExactChecksum', WHERE WHAT IT READS IS OF BULK AT MOST 1048576: true; the input reads as it did. -/
def fnExactChecksumUptoRow : OpenClaim := { program := "ytpkgppfcnddgaaa", sum := "b4ccecc2f276c55864c0645a024df8524cbce66363c3580a8c1e56e449a5863c", func := "loop.example/g00510/laws.FnExactChecksum", spec := "fnExactChecksum", apart := false, narrowed := true }
def FnExactChecksumUptoSaid : Prop := fnExactChecksumUptoRow.holds Try.pinned (OpenSpec.upto fnExactChecksumSpec)

/-- 'laws.FnExactEncodeText', WHERE WHAT IT READS IS OF BULK AT MOST 1048576: true; the input reads as it did. -/
def fnExactEncodeTextUptoRow : OpenClaim := { program := "ytpkgppfcnddgaaa", sum := "b4ccecc2f276c55864c0645a024df8524cbce66363c3580a8c1e56e449a5863c", func := "loop.example/g00510/laws.FnExactEncodeText", spec := "fnExactEncodeText", apart := false, narrowed := true }
def FnExactEncodeTextUptoSaid : Prop := fnExactEncodeTextUptoRow.holds Try.pinned (OpenSpec.upto fnExactEncodeTextSpec)

/-- 'laws.FnExactCrashStore', WHERE WHAT IT READS IS OF BULK AT MOST 1048576: true; the input reads as it did. -/
def fnExactCrashStoreUptoRow : OpenClaim := { program := "ytpkgppfcnddgaaa", sum := "b4ccecc2f276c55864c0645a024df8524cbce66363c3580a8c1e56e449a5863c", func := "loop.example/g00510/laws.FnExactCrashStore", spec := "fnExactCrashStore", apart := false, narrowed := true }
def FnExactCrashStoreUptoSaid : Prop := fnExactCrashStoreUptoRow.holds Try.pinned (OpenSpec.upto fnExactCrashStoreSpec)

end Rows
end Go.Proofs.Ytpkgppfcnddgaaa
