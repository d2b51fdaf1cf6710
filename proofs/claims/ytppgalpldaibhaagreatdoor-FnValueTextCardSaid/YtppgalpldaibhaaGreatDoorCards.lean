/-
  DERIVED. GIVEN WITH THE SEED: THE CARDS: each row of YtppgalpldaibhaaGreatDoorRows.lean that lists a variable, with what it lists TIED to the program's text (the seventh form; the later family's looks); each row that meets fmt, with fmt's text TOLD by the authors' own Lean function (tested against real Go, not proved from fmt's source: count such statements apart). THE CARD IS WHAT COUNTS. Prove the row's statement (the work); the ties are given (YtppgalpldaibhaaGreatDoorTie.lean); close each card by the builder's one call (the guide's Derived/Test/ToyasCard.lean, 'card_holds'). Laid BY PROGRAM, IN A SANDBOX (cutbox-door.mjs). By AI agents, Wed Nov 11 2026. No macro, syntax, notation, axiom, sorry.
-/
import Derived.Test.YtppgalpldaibhaaGreatDoorRows
import GoSem.ClaimSeven
namespace Go.Proofs.YtppgalpldaibhaaGreatDoor
namespace Rows

/-- THE TIED CARD OF 'laws.FnExactOpenStore'. -/
def fnExactOpenStoreCard : Claim7 := { stood := { row := fnExactOpenStoreRow, standIns := [], harness := (true, "c48452d9de568a3a87c5b24f92fe71dc9239ad69ffead86f30cf6f947a02805b"), looks := true }, kinds := [], alts := [], laidByText := true, laidKinds := [.data, .data, .data, .data, .sentinel, .sentinel, .sentinel, .widerDeep, .pinned], laidTests := true, laidLooks := .later }
def FnExactOpenStoreCardSaid : Prop := Claim7.holds Tryz.pinned (.plain (OpenSpec.ofChange fnExactOpenStoreSpec)) fnExactOpenStoreCard

/-- THE TIED CARD OF 'laws.FnValueText'. -/
def fnValueTextCard : Claim7 := { stood := { row := fnValueTextRow, standIns := [], harness := (true, "c48452d9de568a3a87c5b24f92fe71dc9239ad69ffead86f30cf6f947a02805b"), looks := true }, kinds := [], alts := [], laidByText := true, laidKinds := [.data, .data, .data, .data, .sentinel, .sentinel, .widerDeep, .pinned], laidTests := true, laidLooks := .later }
def FnValueTextCardSaid : Prop := Claim7.holds Tryz.pinned (.plain (OpenSpec.ofChange fnValueTextSpec)) fnValueTextCard

/-- THE TIED CARD OF 'laws.FnParsedValue'. -/
def fnParsedValueCard : Claim7 := { stood := { row := fnParsedValueRow, standIns := [], harness := (true, "c48452d9de568a3a87c5b24f92fe71dc9239ad69ffead86f30cf6f947a02805b"), looks := true }, kinds := [], alts := [], laidByText := true, laidKinds := [.data, .data, .data, .data, .sentinel, .sentinel, .widerDeep, .pinned], laidTests := true, laidLooks := .later }
def FnParsedValueCardSaid : Prop := Claim7.holds Tryz.pinned (.plain (OpenSpec.ofChange fnParsedValueSpec)) fnParsedValueCard

/-- THE TIED CARD OF 'laws.FnExactParseValue'. -/
def fnExactParseValueCard : Claim7 := { stood := { row := fnExactParseValueRow, standIns := [], harness := (true, "c48452d9de568a3a87c5b24f92fe71dc9239ad69ffead86f30cf6f947a02805b"), looks := true }, kinds := [], alts := [], laidByText := true, laidKinds := [.data, .data, .data, .data, .sentinel, .sentinel, .widerDeep, .pinned], laidTests := true, laidLooks := .later }
def FnExactParseValueCardSaid : Prop := Claim7.holds Tryz.pinned (.plain (OpenSpec.ofChange fnExactParseValueSpec)) fnExactParseValueCard

/-- THE TIED CARD OF 'laws.FnExactParseOp'. -/
def fnExactParseOpCard : Claim7 := { stood := { row := fnExactParseOpRow, standIns := [], harness := (true, "c48452d9de568a3a87c5b24f92fe71dc9239ad69ffead86f30cf6f947a02805b"), looks := true }, kinds := [], alts := [], laidByText := true, laidKinds := [.data, .data, .data, .data, .sentinel, .sentinel, .sentinel, .widerDeep, .pinned], laidTests := true, laidLooks := .later }
def FnExactParseOpCardSaid : Prop := Claim7.holds Tryz.pinned (.plain (OpenSpec.ofChange fnExactParseOpSpec)) fnExactParseOpCard

/-- THE TIED CARD OF 'laws.FnExactParseRecord'. -/
def fnExactParseRecordCard : Claim7 := { stood := { row := fnExactParseRecordRow, standIns := [], harness := (true, "c48452d9de568a3a87c5b24f92fe71dc9239ad69ffead86f30cf6f947a02805b"), looks := true }, kinds := [], alts := [], laidByText := true, laidKinds := [.data, .data, .data, .data, .sentinel, .sentinel, .sentinel, .widerDeep, .pinned], laidTests := true, laidLooks := .later }
def FnExactParseRecordCardSaid : Prop := Claim7.holds Tryz.pinned (.plain (OpenSpec.ofChange fnExactParseRecordSpec)) fnExactParseRecordCard

/-- THE TIED CARD OF 'laws.FnExactRecoverOps'. -/
def fnExactRecoverOpsCard : Claim7 := { stood := { row := fnExactRecoverOpsRow, standIns := [], harness := (true, "c48452d9de568a3a87c5b24f92fe71dc9239ad69ffead86f30cf6f947a02805b"), looks := true }, kinds := [], alts := [], laidByText := true, laidKinds := [.data, .data, .data, .data, .sentinel, .sentinel, .sentinel, .widerDeep, .pinned], laidTests := true, laidLooks := .later }
def FnExactRecoverOpsCardSaid : Prop := Claim7.holds Tryz.pinned (.plain (OpenSpec.ofChange fnExactRecoverOpsSpec)) fnExactRecoverOpsCard

/-- THE TIED CARD OF 'laws.FnRecords'. -/
def fnRecordsCard : Claim7 := { stood := { row := fnRecordsRow, standIns := [], harness := (true, "c48452d9de568a3a87c5b24f92fe71dc9239ad69ffead86f30cf6f947a02805b"), looks := true }, kinds := [], alts := [], laidByText := true, laidKinds := [.data, .data, .data, .data, .sentinel, .sentinel, .sentinel, .widerDeep, .pinned], laidTests := true, laidLooks := .later }
def FnRecordsCardSaid : Prop := Claim7.holds Tryz.pinned (.plain (OpenSpec.ofChange fnRecordsSpec)) fnRecordsCard

/-- THE TIED CARD OF 'laws.FnStored'. -/
def fnStoredCard : Claim7 := { stood := { row := fnStoredRow, standIns := [], harness := (true, "c48452d9de568a3a87c5b24f92fe71dc9239ad69ffead86f30cf6f947a02805b"), looks := true }, kinds := [], alts := [], laidByText := true, laidKinds := [.data, .data, .data, .data, .sentinel, .sentinel, .sentinel, .widerDeep, .pinned], laidTests := true, laidLooks := .later }
def FnStoredCardSaid : Prop := Claim7.holds Tryz.pinned (.plain (OpenSpec.ofChange fnStoredSpec)) fnStoredCard

/-- THE TIED CARD OF 'laws.FnCrashed'. -/
def fnCrashedCard : Claim7 := { stood := { row := fnCrashedRow, standIns := [], harness := (true, "c48452d9de568a3a87c5b24f92fe71dc9239ad69ffead86f30cf6f947a02805b"), looks := true }, kinds := [], alts := [], laidByText := true, laidKinds := [.data, .data, .data, .data, .sentinel, .sentinel, .sentinel, .widerDeep, .pinned], laidTests := true, laidLooks := .later }
def FnCrashedCardSaid : Prop := Claim7.holds Tryz.pinned (.plain (OpenSpec.ofChange fnCrashedSpec)) fnCrashedCard

/-- THE TIED CARD OF 'laws.FnSaved'. -/
def fnSavedCard : Claim7 := { stood := { row := fnSavedRow, standIns := [], harness := (true, "c48452d9de568a3a87c5b24f92fe71dc9239ad69ffead86f30cf6f947a02805b"), looks := true }, kinds := [], alts := [], laidByText := true, laidKinds := [.data, .data, .data, .data, .sentinel, .sentinel, .sentinel, .widerDeep, .pinned], laidTests := true, laidLooks := .later }
def FnSavedCardSaid : Prop := Claim7.holds Tryz.pinned (.plain (OpenSpec.ofChange fnSavedSpec)) fnSavedCard

/-- THE TIED CARD OF 'laws.FnExactLoadReplica'. -/
def fnExactLoadReplicaCard : Claim7 := { stood := { row := fnExactLoadReplicaRow, standIns := [], harness := (true, "c48452d9de568a3a87c5b24f92fe71dc9239ad69ffead86f30cf6f947a02805b"), looks := true }, kinds := [], alts := [], laidByText := true, laidKinds := [.data, .data, .data, .data, .sentinel, .sentinel, .sentinel, .widerDeep, .pinned], laidTests := true, laidLooks := .later }
def FnExactLoadReplicaCardSaid : Prop := Claim7.holds Tryz.pinned (.plain (OpenSpec.ofChange fnExactLoadReplicaSpec)) fnExactLoadReplicaCard

/-- THE SECOND FORM's CARD OF 'laws.FnExactOpenStore'. -/
def fnExactOpenStoreUptoCard : Claim7 := { stood := { row := fnExactOpenStoreUptoRow, standIns := [], harness := (true, "c48452d9de568a3a87c5b24f92fe71dc9239ad69ffead86f30cf6f947a02805b"), looks := true }, kinds := [], alts := [], laidByText := true, laidKinds := [.data, .data, .data, .data, .sentinel, .sentinel, .sentinel, .widerDeep, .pinned], laidTests := true, laidLooks := .later }
def FnExactOpenStoreUptoCardSaid : Prop := Claim7.holds Tryz.pinned (.plain (OpenSpec.upto fnExactOpenStoreSpec)) fnExactOpenStoreUptoCard

/-- THE SECOND FORM's CARD OF 'laws.FnValueText'. -/
def fnValueTextUptoCard : Claim7 := { stood := { row := fnValueTextUptoRow, standIns := [], harness := (true, "c48452d9de568a3a87c5b24f92fe71dc9239ad69ffead86f30cf6f947a02805b"), looks := true }, kinds := [], alts := [], laidByText := true, laidKinds := [.data, .data, .data, .data, .sentinel, .sentinel, .widerDeep, .pinned], laidTests := true, laidLooks := .later }
def FnValueTextUptoCardSaid : Prop := Claim7.holds Tryz.pinned (.plain (OpenSpec.upto fnValueTextSpec)) fnValueTextUptoCard

/-- THE SECOND FORM's CARD OF 'laws.FnParsedValue'. -/
def fnParsedValueUptoCard : Claim7 := { stood := { row := fnParsedValueUptoRow, standIns := [], harness := (true, "c48452d9de568a3a87c5b24f92fe71dc9239ad69ffead86f30cf6f947a02805b"), looks := true }, kinds := [], alts := [], laidByText := true, laidKinds := [.data, .data, .data, .data, .sentinel, .sentinel, .widerDeep, .pinned], laidTests := true, laidLooks := .later }
def FnParsedValueUptoCardSaid : Prop := Claim7.holds Tryz.pinned (.plain (OpenSpec.upto fnParsedValueSpec)) fnParsedValueUptoCard

/-- THE SECOND FORM's CARD OF 'laws.FnExactParseValue'. -/
def fnExactParseValueUptoCard : Claim7 := { stood := { row := fnExactParseValueUptoRow, standIns := [], harness := (true, "c48452d9de568a3a87c5b24f92fe71dc9239ad69ffead86f30cf6f947a02805b"), looks := true }, kinds := [], alts := [], laidByText := true, laidKinds := [.data, .data, .data, .data, .sentinel, .sentinel, .widerDeep, .pinned], laidTests := true, laidLooks := .later }
def FnExactParseValueUptoCardSaid : Prop := Claim7.holds Tryz.pinned (.plain (OpenSpec.upto fnExactParseValueSpec)) fnExactParseValueUptoCard

/-- THE SECOND FORM's CARD OF 'laws.FnExactParseOp'. -/
def fnExactParseOpUptoCard : Claim7 := { stood := { row := fnExactParseOpUptoRow, standIns := [], harness := (true, "c48452d9de568a3a87c5b24f92fe71dc9239ad69ffead86f30cf6f947a02805b"), looks := true }, kinds := [], alts := [], laidByText := true, laidKinds := [.data, .data, .data, .data, .sentinel, .sentinel, .sentinel, .widerDeep, .pinned], laidTests := true, laidLooks := .later }
def FnExactParseOpUptoCardSaid : Prop := Claim7.holds Tryz.pinned (.plain (OpenSpec.upto fnExactParseOpSpec)) fnExactParseOpUptoCard

/-- THE SECOND FORM's CARD OF 'laws.FnExactParseRecord'. -/
def fnExactParseRecordUptoCard : Claim7 := { stood := { row := fnExactParseRecordUptoRow, standIns := [], harness := (true, "c48452d9de568a3a87c5b24f92fe71dc9239ad69ffead86f30cf6f947a02805b"), looks := true }, kinds := [], alts := [], laidByText := true, laidKinds := [.data, .data, .data, .data, .sentinel, .sentinel, .sentinel, .widerDeep, .pinned], laidTests := true, laidLooks := .later }
def FnExactParseRecordUptoCardSaid : Prop := Claim7.holds Tryz.pinned (.plain (OpenSpec.upto fnExactParseRecordSpec)) fnExactParseRecordUptoCard

/-- THE SECOND FORM's CARD OF 'laws.FnExactRecoverOps'. -/
def fnExactRecoverOpsUptoCard : Claim7 := { stood := { row := fnExactRecoverOpsUptoRow, standIns := [], harness := (true, "c48452d9de568a3a87c5b24f92fe71dc9239ad69ffead86f30cf6f947a02805b"), looks := true }, kinds := [], alts := [], laidByText := true, laidKinds := [.data, .data, .data, .data, .sentinel, .sentinel, .sentinel, .widerDeep, .pinned], laidTests := true, laidLooks := .later }
def FnExactRecoverOpsUptoCardSaid : Prop := Claim7.holds Tryz.pinned (.plain (OpenSpec.upto fnExactRecoverOpsSpec)) fnExactRecoverOpsUptoCard

/-- THE SECOND FORM's CARD OF 'laws.FnRecords'. -/
def fnRecordsUptoCard : Claim7 := { stood := { row := fnRecordsUptoRow, standIns := [], harness := (true, "c48452d9de568a3a87c5b24f92fe71dc9239ad69ffead86f30cf6f947a02805b"), looks := true }, kinds := [], alts := [], laidByText := true, laidKinds := [.data, .data, .data, .data, .sentinel, .sentinel, .sentinel, .widerDeep, .pinned], laidTests := true, laidLooks := .later }
def FnRecordsUptoCardSaid : Prop := Claim7.holds Tryz.pinned (.plain (OpenSpec.upto fnRecordsSpec)) fnRecordsUptoCard

/-- THE SECOND FORM's CARD OF 'laws.FnStored'. -/
def fnStoredUptoCard : Claim7 := { stood := { row := fnStoredUptoRow, standIns := [], harness := (true, "c48452d9de568a3a87c5b24f92fe71dc9239ad69ffead86f30cf6f947a02805b"), looks := true }, kinds := [], alts := [], laidByText := true, laidKinds := [.data, .data, .data, .data, .sentinel, .sentinel, .sentinel, .widerDeep, .pinned], laidTests := true, laidLooks := .later }
def FnStoredUptoCardSaid : Prop := Claim7.holds Tryz.pinned (.plain (OpenSpec.upto fnStoredSpec)) fnStoredUptoCard

/-- THE SECOND FORM's CARD OF 'laws.FnCrashed'. -/
def fnCrashedUptoCard : Claim7 := { stood := { row := fnCrashedUptoRow, standIns := [], harness := (true, "c48452d9de568a3a87c5b24f92fe71dc9239ad69ffead86f30cf6f947a02805b"), looks := true }, kinds := [], alts := [], laidByText := true, laidKinds := [.data, .data, .data, .data, .sentinel, .sentinel, .sentinel, .widerDeep, .pinned], laidTests := true, laidLooks := .later }
def FnCrashedUptoCardSaid : Prop := Claim7.holds Tryz.pinned (.plain (OpenSpec.upto fnCrashedSpec)) fnCrashedUptoCard

/-- THE SECOND FORM's CARD OF 'laws.FnSaved'. -/
def fnSavedUptoCard : Claim7 := { stood := { row := fnSavedUptoRow, standIns := [], harness := (true, "c48452d9de568a3a87c5b24f92fe71dc9239ad69ffead86f30cf6f947a02805b"), looks := true }, kinds := [], alts := [], laidByText := true, laidKinds := [.data, .data, .data, .data, .sentinel, .sentinel, .sentinel, .widerDeep, .pinned], laidTests := true, laidLooks := .later }
def FnSavedUptoCardSaid : Prop := Claim7.holds Tryz.pinned (.plain (OpenSpec.upto fnSavedSpec)) fnSavedUptoCard

/-- THE SECOND FORM's CARD OF 'laws.FnExactLoadReplica'. -/
def fnExactLoadReplicaUptoCard : Claim7 := { stood := { row := fnExactLoadReplicaUptoRow, standIns := [], harness := (true, "c48452d9de568a3a87c5b24f92fe71dc9239ad69ffead86f30cf6f947a02805b"), looks := true }, kinds := [], alts := [], laidByText := true, laidKinds := [.data, .data, .data, .data, .sentinel, .sentinel, .sentinel, .widerDeep, .pinned], laidTests := true, laidLooks := .later }
def FnExactLoadReplicaUptoCardSaid : Prop := Claim7.holds Tryz.pinned (.plain (OpenSpec.upto fnExactLoadReplicaSpec)) fnExactLoadReplicaUptoCard
end Rows
end Go.Proofs.YtppgalpldaibhaaGreatDoor
