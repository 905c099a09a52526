/-
  DERIVED. GIVEN WITH THE SEED: THE CARDS: each row of YtfhffldgjepeaaaDoorRows.lean that lists a variable, with what it lists TIED to the program's text (the seventh form; the later family's looks); each row that meets fmt, with fmt's text TOLD by the authors' own Lean function (tested against real Go, not proved from fmt's source: count such statements apart). THE CARD IS WHAT COUNTS. Prove the row's statement (the work); the ties are given (YtfhffldgjepeaaaDoorTie.lean); close each card by the builder's one call (the guide's Derived/Test/ToyasCard.lean, 'card_holds'). Laid BY PROGRAM, IN A SANDBOX (cutbox-door.mjs). By AI agents, Wed Nov 11 2026. No macro, syntax, notation, axiom, sorry.
-/
import Derived.Test.YtfhffldgjepeaaaDoorRows
import GoSem.ClaimSeven
namespace Go.Proofs.YtfhffldgjepeaaaDoor
namespace Rows

/-- THE TIED CARD OF 'coppicelaw18.ServeLost'. -/
def serveLostCard : Claim7 := { stood := { row := serveLostRow, standIns := [], harness := (true, "83e2a40231cfec3fe1484c18002cbe3f6829a77ba94040f307ee1112a1769633"), looks := false }, kinds := [], alts := [], laidByText := true, laidKinds := [.data, .data, .data], laidTests := true, laidLooks := .later }
def ServeLostCardSaid : Prop := Claim7.holds Tryd.pinned (.plain (OpenSpec.ofChange serveLostSpec)) serveLostCard

/-- THE TIED CARD OF 'coppicelaw18.ServeNobody'. -/
def serveNobodyCard : Claim7 := { stood := { row := serveNobodyRow, standIns := [], harness := (true, "83e2a40231cfec3fe1484c18002cbe3f6829a77ba94040f307ee1112a1769633"), looks := false }, kinds := [], alts := [], laidByText := true, laidKinds := [.data, .data, .data], laidTests := true, laidLooks := .later }
def ServeNobodyCardSaid : Prop := Claim7.holds Tryd.pinned (.plain (OpenSpec.ofChange serveNobodySpec)) serveNobodyCard

/-- THE TIED CARD OF 'coppicelaw18.ServeTree'. -/
def serveTreeCard : Claim7 := { stood := { row := serveTreeRow, standIns := [], harness := (true, "83e2a40231cfec3fe1484c18002cbe3f6829a77ba94040f307ee1112a1769633"), looks := false }, kinds := [], alts := [], laidByText := true, laidKinds := [.data, .data, .data], laidTests := true, laidLooks := .later }
def ServeTreeCardSaid : Prop := Claim7.holds Tryd.pinned (.plain (OpenSpec.ofChange serveTreeSpec)) serveTreeCard

/-- THE SECOND FORM's CARD OF 'coppicelaw18.ServeLost'. -/
def serveLostUptoCard : Claim7 := { stood := { row := serveLostUptoRow, standIns := [], harness := (true, "83e2a40231cfec3fe1484c18002cbe3f6829a77ba94040f307ee1112a1769633"), looks := false }, kinds := [], alts := [], laidByText := true, laidKinds := [.data, .data, .data], laidTests := true, laidLooks := .later }
def ServeLostUptoCardSaid : Prop := Claim7.holds Tryd.pinned (.plain (OpenSpec.upto serveLostSpec)) serveLostUptoCard

/-- THE SECOND FORM's CARD OF 'coppicelaw18.ServeNobody'. -/
def serveNobodyUptoCard : Claim7 := { stood := { row := serveNobodyUptoRow, standIns := [], harness := (true, "83e2a40231cfec3fe1484c18002cbe3f6829a77ba94040f307ee1112a1769633"), looks := false }, kinds := [], alts := [], laidByText := true, laidKinds := [.data, .data, .data], laidTests := true, laidLooks := .later }
def ServeNobodyUptoCardSaid : Prop := Claim7.holds Tryd.pinned (.plain (OpenSpec.upto serveNobodySpec)) serveNobodyUptoCard

/-- THE SECOND FORM's CARD OF 'coppicelaw18.ServeTree'. -/
def serveTreeUptoCard : Claim7 := { stood := { row := serveTreeUptoRow, standIns := [], harness := (true, "83e2a40231cfec3fe1484c18002cbe3f6829a77ba94040f307ee1112a1769633"), looks := false }, kinds := [], alts := [], laidByText := true, laidKinds := [.data, .data, .data], laidTests := true, laidLooks := .later }
def ServeTreeUptoCardSaid : Prop := Claim7.holds Tryd.pinned (.plain (OpenSpec.upto serveTreeSpec)) serveTreeUptoCard
end Rows
end Go.Proofs.YtfhffldgjepeaaaDoor
