/-
  DERIVED. GIVEN WITH THE SEED: THE CARDS: each row of YtpkgppfcnddgaabDoorRows.lean that lists a variable, with what it lists TIED to the program's text (the seventh form; the later family's looks); each row that meets fmt, with fmt's text TOLD by the authors' own Lean function (tested against real Go, not proved from fmt's source: count such statements apart). THE CARD IS WHAT COUNTS. Prove the row's statement (the work); the ties are given (YtpkgppfcnddgaabDoorTie.lean); close each card by the builder's one call (the guide's Derived/Test/ToyasCard.lean, 'card_holds'). Laid BY PROGRAM, IN A SANDBOX (cutbox-door.mjs). By AI agents, Wed Nov 11 2026. No macro, syntax, notation, axiom, sorry.
-/
import Derived.Test.YtpkgppfcnddgaabDoorRows
import GoSem.ClaimSeven
namespace Go.Proofs.YtpkgppfcnddgaabDoor
namespace Rows

/-- THE TIED CARD OF 'laws.FnExactDecodeText'. -/
def fnExactDecodeTextCard : Claim7 := { stood := { row := fnExactDecodeTextRow, standIns := [], harness := (true, "a72cdecd6c6913dd7bd74b81a45428b99e8d7ddc6fb264976df3f9d1819d4e21"), looks := false }, kinds := [], alts := [], laidByText := true, laidKinds := [.sentinel], laidTests := true, laidLooks := .later }
def FnExactDecodeTextCardSaid : Prop := Claim7.holds Tryd.pinned (.plain (OpenSpec.ofChange fnExactDecodeTextSpec)) fnExactDecodeTextCard

/-- THE TIED CARD OF 'laws.FnTexts'. -/
def fnTextsCard : Claim7 := { stood := { row := fnTextsRow, standIns := [], harness := (true, "a72cdecd6c6913dd7bd74b81a45428b99e8d7ddc6fb264976df3f9d1819d4e21"), looks := false }, kinds := [], alts := [], laidByText := true, laidKinds := [.sentinel], laidTests := true, laidLooks := .later }
def FnTextsCardSaid : Prop := Claim7.holds Tryd.pinned (.plain (OpenSpec.ofChange fnTextsSpec)) fnTextsCard

/-- THE SECOND FORM's CARD OF 'laws.FnExactDecodeText'. -/
def fnExactDecodeTextUptoCard : Claim7 := { stood := { row := fnExactDecodeTextUptoRow, standIns := [], harness := (true, "a72cdecd6c6913dd7bd74b81a45428b99e8d7ddc6fb264976df3f9d1819d4e21"), looks := false }, kinds := [], alts := [], laidByText := true, laidKinds := [.sentinel], laidTests := true, laidLooks := .later }
def FnExactDecodeTextUptoCardSaid : Prop := Claim7.holds Tryd.pinned (.plain (OpenSpec.upto fnExactDecodeTextSpec)) fnExactDecodeTextUptoCard

/-- THE SECOND FORM's CARD OF 'laws.FnTexts'. -/
def fnTextsUptoCard : Claim7 := { stood := { row := fnTextsUptoRow, standIns := [], harness := (true, "a72cdecd6c6913dd7bd74b81a45428b99e8d7ddc6fb264976df3f9d1819d4e21"), looks := false }, kinds := [], alts := [], laidByText := true, laidKinds := [.sentinel], laidTests := true, laidLooks := .later }
def FnTextsUptoCardSaid : Prop := Claim7.holds Tryd.pinned (.plain (OpenSpec.upto fnTextsSpec)) fnTextsUptoCard
end Rows
end Go.Proofs.YtpkgppfcnddgaabDoor
