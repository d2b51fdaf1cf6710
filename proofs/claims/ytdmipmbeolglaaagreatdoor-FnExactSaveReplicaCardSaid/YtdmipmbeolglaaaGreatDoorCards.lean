/-
  DERIVED. GIVEN WITH THE SEED: THE CARDS: each row of YtdmipmbeolglaaaGreatDoorRows.lean that lists a variable, with what it lists TIED to the program's text (the seventh form; the later family's looks); each row that meets fmt, with fmt's text TOLD by the authors' own Lean function (tested against real Go, not proved from fmt's source: count such statements apart). THE CARD IS WHAT COUNTS. Prove the row's statement (the work); the ties are given (YtdmipmbeolglaaaGreatDoorTie.lean); close each card by the builder's one call (the guide's Derived/Test/ToyasCard.lean, 'card_holds'). Laid BY PROGRAM, IN A SANDBOX (cutbox-door.mjs). By AI agents, Wed Nov 11 2026. No macro, syntax, notation, axiom, sorry.
-/
import Derived.Test.YtdmipmbeolglaaaGreatDoorRows
import GoSem.ClaimSeven
namespace Go.Proofs.YtdmipmbeolglaaaGreatDoor
namespace Rows

/-- THE TIED CARD OF 'laws.FnExactFormatOp'. -/
def fnExactFormatOpCard : Claim7 := { stood := { row := fnExactFormatOpRow, standIns := [], harness := (true, "4345967f0d6359ad557ad165f6896658e35ac05e89aca3c56a78d84f3707de35"), looks := false }, kinds := [], alts := [], laidByText := true, laidKinds := [.data, .data, .data, .widerDeep], laidTests := true, laidLooks := .later }
def FnExactFormatOpCardSaid : Prop := Claim7.holds Tryz.pinned (.plain (OpenSpec.ofChange fnExactFormatOpSpec)) fnExactFormatOpCard

/-- THE TIED CARD OF 'laws.FnExactFormatRecord'. -/
def fnExactFormatRecordCard : Claim7 := { stood := { row := fnExactFormatRecordRow, standIns := [], harness := (true, "4345967f0d6359ad557ad165f6896658e35ac05e89aca3c56a78d84f3707de35"), looks := false }, kinds := [], alts := [], laidByText := true, laidKinds := [.data, .data, .data, .widerDeep], laidTests := true, laidLooks := .later }
def FnExactFormatRecordCardSaid : Prop := Claim7.holds Tryz.pinned (.plain (OpenSpec.ofChange fnExactFormatRecordSpec)) fnExactFormatRecordCard

/-- THE TIED CARD OF 'laws.FnExactWriteOp'. -/
def fnExactWriteOpCard : Claim7 := { stood := { row := fnExactWriteOpRow, standIns := [], harness := (true, "4345967f0d6359ad557ad165f6896658e35ac05e89aca3c56a78d84f3707de35"), looks := false }, kinds := [], alts := [], laidByText := true, laidKinds := [.data, .data, .data, .widerDeep], laidTests := true, laidLooks := .later }
def FnExactWriteOpCardSaid : Prop := Claim7.holds Tryz.pinned (.plain (OpenSpec.ofChange fnExactWriteOpSpec)) fnExactWriteOpCard

/-- THE TIED CARD OF 'laws.FnExactSaveReplica'. -/
def fnExactSaveReplicaCard : Claim7 := { stood := { row := fnExactSaveReplicaRow, standIns := [], harness := (true, "4345967f0d6359ad557ad165f6896658e35ac05e89aca3c56a78d84f3707de35"), looks := false }, kinds := [], alts := [], laidByText := true, laidKinds := [.data, .data, .data, .widerDeep], laidTests := true, laidLooks := .later }
def FnExactSaveReplicaCardSaid : Prop := Claim7.holds Tryz.pinned (.plain (OpenSpec.ofChange fnExactSaveReplicaSpec)) fnExactSaveReplicaCard

/-- THE SECOND FORM's CARD OF 'laws.FnExactFormatOp'. -/
def fnExactFormatOpUptoCard : Claim7 := { stood := { row := fnExactFormatOpUptoRow, standIns := [], harness := (true, "4345967f0d6359ad557ad165f6896658e35ac05e89aca3c56a78d84f3707de35"), looks := false }, kinds := [], alts := [], laidByText := true, laidKinds := [.data, .data, .data, .widerDeep], laidTests := true, laidLooks := .later }
def FnExactFormatOpUptoCardSaid : Prop := Claim7.holds Tryz.pinned (.plain (OpenSpec.upto fnExactFormatOpSpec)) fnExactFormatOpUptoCard

/-- THE SECOND FORM's CARD OF 'laws.FnExactFormatRecord'. -/
def fnExactFormatRecordUptoCard : Claim7 := { stood := { row := fnExactFormatRecordUptoRow, standIns := [], harness := (true, "4345967f0d6359ad557ad165f6896658e35ac05e89aca3c56a78d84f3707de35"), looks := false }, kinds := [], alts := [], laidByText := true, laidKinds := [.data, .data, .data, .widerDeep], laidTests := true, laidLooks := .later }
def FnExactFormatRecordUptoCardSaid : Prop := Claim7.holds Tryz.pinned (.plain (OpenSpec.upto fnExactFormatRecordSpec)) fnExactFormatRecordUptoCard

/-- THE SECOND FORM's CARD OF 'laws.FnExactWriteOp'. -/
def fnExactWriteOpUptoCard : Claim7 := { stood := { row := fnExactWriteOpUptoRow, standIns := [], harness := (true, "4345967f0d6359ad557ad165f6896658e35ac05e89aca3c56a78d84f3707de35"), looks := false }, kinds := [], alts := [], laidByText := true, laidKinds := [.data, .data, .data, .widerDeep], laidTests := true, laidLooks := .later }
def FnExactWriteOpUptoCardSaid : Prop := Claim7.holds Tryz.pinned (.plain (OpenSpec.upto fnExactWriteOpSpec)) fnExactWriteOpUptoCard

/-- THE SECOND FORM's CARD OF 'laws.FnExactSaveReplica'. -/
def fnExactSaveReplicaUptoCard : Claim7 := { stood := { row := fnExactSaveReplicaUptoRow, standIns := [], harness := (true, "4345967f0d6359ad557ad165f6896658e35ac05e89aca3c56a78d84f3707de35"), looks := false }, kinds := [], alts := [], laidByText := true, laidKinds := [.data, .data, .data, .widerDeep], laidTests := true, laidLooks := .later }
def FnExactSaveReplicaUptoCardSaid : Prop := Claim7.holds Tryz.pinned (.plain (OpenSpec.upto fnExactSaveReplicaSpec)) fnExactSaveReplicaUptoCard
end Rows
end Go.Proofs.YtdmipmbeolglaaaGreatDoor
