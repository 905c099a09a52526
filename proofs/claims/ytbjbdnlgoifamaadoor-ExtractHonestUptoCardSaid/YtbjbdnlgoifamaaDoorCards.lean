/-
  DERIVED. GIVEN WITH THE SEED: THE CARDS: each row of YtbjbdnlgoifamaaDoorRows.lean that lists a variable, with what it lists TIED to the program's text (the seventh form; the later family's looks); each row that meets fmt, with fmt's text TOLD by the authors' own Lean function (tested against real Go, not proved from fmt's source: count such statements apart). THE CARD IS WHAT COUNTS. Prove the row's statement (the work); the ties are given (YtbjbdnlgoifamaaDoorTie.lean); close each card by the builder's one call (the guide's Derived/Test/ToyasCard.lean, 'card_holds'). Laid BY PROGRAM, IN A SANDBOX (cutbox-door.mjs). By AI agents, Wed Nov 11 2026. No macro, syntax, notation, axiom, sorry.
-/
import Derived.Test.YtbjbdnlgoifamaaDoorRows
import GoSem.ClaimSeven
namespace Go.Proofs.YtbjbdnlgoifamaaDoor
namespace Rows

/-- THE TIED CARD OF 'coppicetop.TopTree'. -/
def topTreeCard : Claim7 := { stood := { row := topTreeRow, standIns := [], harness := (true, "ce56be8e7c0f88bb3ac4f398487285988b870fd4e991edbe3a69915f2027633e"), looks := true }, kinds := [], alts := [], laidByText := true, laidKinds := [.data], laidTests := true, laidLooks := .later }
def TopTreeCardSaid : Prop := Claim7.holds Tryd.pinned (.plain (OpenSpec.ofChange topTreeSpec)) topTreeCard

/-- THE TIED CARD OF 'coppicelaw09.ExtractAccepts'. -/
def extractAcceptsCard : Claim7 := { stood := { row := extractAcceptsRow, standIns := [], harness := (true, "ce56be8e7c0f88bb3ac4f398487285988b870fd4e991edbe3a69915f2027633e"), looks := true }, kinds := [], alts := [], laidByText := true, laidKinds := [.data], laidTests := true, laidLooks := .later }
def ExtractAcceptsCardSaid : Prop := Claim7.holds Tryd.pinned (.plain (OpenSpec.ofChange extractAcceptsSpec)) extractAcceptsCard

/-- THE TIED CARD OF 'coppicelaw09.ExtractParts'. -/
def extractPartsCard : Claim7 := { stood := { row := extractPartsRow, standIns := [], harness := (true, "ce56be8e7c0f88bb3ac4f398487285988b870fd4e991edbe3a69915f2027633e"), looks := true }, kinds := [], alts := [], laidByText := true, laidKinds := [.data], laidTests := true, laidLooks := .later }
def ExtractPartsCardSaid : Prop := Claim7.holds Tryd.pinned (.plain (OpenSpec.ofChange extractPartsSpec)) extractPartsCard

/-- THE TIED CARD OF 'coppicelaw09.ExtractTells'. -/
def extractTellsCard : Claim7 := { stood := { row := extractTellsRow, standIns := [], harness := (true, "ce56be8e7c0f88bb3ac4f398487285988b870fd4e991edbe3a69915f2027633e"), looks := true }, kinds := [], alts := [], laidByText := true, laidKinds := [.data], laidTests := true, laidLooks := .later }
def ExtractTellsCardSaid : Prop := Claim7.holds Tryd.pinned (.plain (OpenSpec.ofChange extractTellsSpec)) extractTellsCard

/-- THE TIED CARD OF 'coppicelaw09.ExtractHonest'. -/
def extractHonestCard : Claim7 := { stood := { row := extractHonestRow, standIns := [], harness := (true, "ce56be8e7c0f88bb3ac4f398487285988b870fd4e991edbe3a69915f2027633e"), looks := true }, kinds := [], alts := [], laidByText := true, laidKinds := [.data], laidTests := true, laidLooks := .later }
def ExtractHonestCardSaid : Prop := Claim7.holds Tryd.pinned (.plain (OpenSpec.ofChange extractHonestSpec)) extractHonestCard

/-- THE SECOND FORM's CARD OF 'coppicetop.TopTree'. -/
def topTreeUptoCard : Claim7 := { stood := { row := topTreeUptoRow, standIns := [], harness := (true, "ce56be8e7c0f88bb3ac4f398487285988b870fd4e991edbe3a69915f2027633e"), looks := true }, kinds := [], alts := [], laidByText := true, laidKinds := [.data], laidTests := true, laidLooks := .later }
def TopTreeUptoCardSaid : Prop := Claim7.holds Tryd.pinned (.plain (OpenSpec.upto topTreeSpec)) topTreeUptoCard

/-- THE SECOND FORM's CARD OF 'coppicelaw09.ExtractAccepts'. -/
def extractAcceptsUptoCard : Claim7 := { stood := { row := extractAcceptsUptoRow, standIns := [], harness := (true, "ce56be8e7c0f88bb3ac4f398487285988b870fd4e991edbe3a69915f2027633e"), looks := true }, kinds := [], alts := [], laidByText := true, laidKinds := [.data], laidTests := true, laidLooks := .later }
def ExtractAcceptsUptoCardSaid : Prop := Claim7.holds Tryd.pinned (.plain (OpenSpec.upto extractAcceptsSpec)) extractAcceptsUptoCard

/-- THE SECOND FORM's CARD OF 'coppicelaw09.ExtractParts'. -/
def extractPartsUptoCard : Claim7 := { stood := { row := extractPartsUptoRow, standIns := [], harness := (true, "ce56be8e7c0f88bb3ac4f398487285988b870fd4e991edbe3a69915f2027633e"), looks := true }, kinds := [], alts := [], laidByText := true, laidKinds := [.data], laidTests := true, laidLooks := .later }
def ExtractPartsUptoCardSaid : Prop := Claim7.holds Tryd.pinned (.plain (OpenSpec.upto extractPartsSpec)) extractPartsUptoCard

/-- THE SECOND FORM's CARD OF 'coppicelaw09.ExtractTells'. -/
def extractTellsUptoCard : Claim7 := { stood := { row := extractTellsUptoRow, standIns := [], harness := (true, "ce56be8e7c0f88bb3ac4f398487285988b870fd4e991edbe3a69915f2027633e"), looks := true }, kinds := [], alts := [], laidByText := true, laidKinds := [.data], laidTests := true, laidLooks := .later }
def ExtractTellsUptoCardSaid : Prop := Claim7.holds Tryd.pinned (.plain (OpenSpec.upto extractTellsSpec)) extractTellsUptoCard

/-- THE SECOND FORM's CARD OF 'coppicelaw09.ExtractHonest'. -/
def extractHonestUptoCard : Claim7 := { stood := { row := extractHonestUptoRow, standIns := [], harness := (true, "ce56be8e7c0f88bb3ac4f398487285988b870fd4e991edbe3a69915f2027633e"), looks := true }, kinds := [], alts := [], laidByText := true, laidKinds := [.data], laidTests := true, laidLooks := .later }
def ExtractHonestUptoCardSaid : Prop := Claim7.holds Tryd.pinned (.plain (OpenSpec.upto extractHonestSpec)) extractHonestUptoCard
end Rows
end Go.Proofs.YtbjbdnlgoifamaaDoor
