/-
  DERIVED. GIVEN WITH THE SEED: THE CARDS: each row of YtdjfhmghebommaaGreatDoorRows.lean that lists a variable, with what it lists TIED to the program's text (the seventh form; the later family's looks); each row that meets fmt, with fmt's text TOLD by the authors' own Lean function (tested against real Go, not proved from fmt's source: count such statements apart). THE CARD IS WHAT COUNTS. Prove the row's statement (the work); the ties are given (YtdjfhmghebommaaGreatDoorTie.lean); close each card by the builder's one call (the guide's Derived/Test/ToyasCard.lean, 'card_holds'). Laid BY PROGRAM, IN A SANDBOX (cutbox-door.mjs). By AI agents, Wed Nov 11 2026. No macro, syntax, notation, axiom, sorry.
-/
import Derived.Test.YtdjfhmghebommaaGreatDoorRows
import GoSem.ClaimSeven
namespace Go.Proofs.YtdjfhmghebommaaGreatDoor
namespace Rows

/-- THE TIED CARD OF 'laws.FnExactParseOp'. -/
def fnExactParseOpCard : Claim7 := { stood := { row := fnExactParseOpRow, standIns := [], harness := (true, "6117873154f6c525f530b0a5fece8082bc13eb31a4af46aa1692c5f4b8fab891"), looks := true }, kinds := [], alts := [], laidByText := true, laidKinds := [.data, .data, .data, .data, .sentinel, .sentinel, .sentinel, .widerDeep, .pinned], laidTests := true, laidLooks := .later }
def FnExactParseOpCardSaid : Prop := Claim7.holds Tryz.pinned (.plain (OpenSpec.ofChange fnExactParseOpSpec)) fnExactParseOpCard

/-- THE TIED CARD OF 'laws.FnExactParseRecord'. -/
def fnExactParseRecordCard : Claim7 := { stood := { row := fnExactParseRecordRow, standIns := [], harness := (true, "6117873154f6c525f530b0a5fece8082bc13eb31a4af46aa1692c5f4b8fab891"), looks := true }, kinds := [], alts := [], laidByText := true, laidKinds := [.data, .data, .data, .data, .sentinel, .sentinel, .sentinel, .widerDeep, .pinned], laidTests := true, laidLooks := .later }
def FnExactParseRecordCardSaid : Prop := Claim7.holds Tryz.pinned (.plain (OpenSpec.ofChange fnExactParseRecordSpec)) fnExactParseRecordCard

/-- THE TIED CARD OF 'laws.FnExactRecoverOps'. -/
def fnExactRecoverOpsCard : Claim7 := { stood := { row := fnExactRecoverOpsRow, standIns := [], harness := (true, "6117873154f6c525f530b0a5fece8082bc13eb31a4af46aa1692c5f4b8fab891"), looks := true }, kinds := [], alts := [], laidByText := true, laidKinds := [.data, .data, .data, .data, .sentinel, .sentinel, .sentinel, .widerDeep, .pinned], laidTests := true, laidLooks := .later }
def FnExactRecoverOpsCardSaid : Prop := Claim7.holds Tryz.pinned (.plain (OpenSpec.ofChange fnExactRecoverOpsSpec)) fnExactRecoverOpsCard

/-- THE SECOND FORM's CARD OF 'laws.FnExactParseOp'. -/
def fnExactParseOpUptoCard : Claim7 := { stood := { row := fnExactParseOpUptoRow, standIns := [], harness := (true, "6117873154f6c525f530b0a5fece8082bc13eb31a4af46aa1692c5f4b8fab891"), looks := true }, kinds := [], alts := [], laidByText := true, laidKinds := [.data, .data, .data, .data, .sentinel, .sentinel, .sentinel, .widerDeep, .pinned], laidTests := true, laidLooks := .later }
def FnExactParseOpUptoCardSaid : Prop := Claim7.holds Tryz.pinned (.plain (OpenSpec.upto fnExactParseOpSpec)) fnExactParseOpUptoCard

/-- THE SECOND FORM's CARD OF 'laws.FnExactParseRecord'. -/
def fnExactParseRecordUptoCard : Claim7 := { stood := { row := fnExactParseRecordUptoRow, standIns := [], harness := (true, "6117873154f6c525f530b0a5fece8082bc13eb31a4af46aa1692c5f4b8fab891"), looks := true }, kinds := [], alts := [], laidByText := true, laidKinds := [.data, .data, .data, .data, .sentinel, .sentinel, .sentinel, .widerDeep, .pinned], laidTests := true, laidLooks := .later }
def FnExactParseRecordUptoCardSaid : Prop := Claim7.holds Tryz.pinned (.plain (OpenSpec.upto fnExactParseRecordSpec)) fnExactParseRecordUptoCard

/-- THE SECOND FORM's CARD OF 'laws.FnExactRecoverOps'. -/
def fnExactRecoverOpsUptoCard : Claim7 := { stood := { row := fnExactRecoverOpsUptoRow, standIns := [], harness := (true, "6117873154f6c525f530b0a5fece8082bc13eb31a4af46aa1692c5f4b8fab891"), looks := true }, kinds := [], alts := [], laidByText := true, laidKinds := [.data, .data, .data, .data, .sentinel, .sentinel, .sentinel, .widerDeep, .pinned], laidTests := true, laidLooks := .later }
def FnExactRecoverOpsUptoCardSaid : Prop := Claim7.holds Tryz.pinned (.plain (OpenSpec.upto fnExactRecoverOpsSpec)) fnExactRecoverOpsUptoCard
end Rows
end Go.Proofs.YtdjfhmghebommaaGreatDoor
