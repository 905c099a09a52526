/-
  DERIVED. GIVEN WITH THE SEED: THE CARDS: each row of YtcjnheabkdalbaaDoorRows.lean that lists a variable, with what it lists TIED to the program's text (the seventh form; the later family's looks); each row that meets fmt, with fmt's text TOLD by the authors' own Lean function (tested against real Go, not proved from fmt's source: count such statements apart). THE CARD IS WHAT COUNTS. Prove the row's statement (the work); the ties are given (YtcjnheabkdalbaaDoorTie.lean); close each card by the builder's one call (the guide's Derived/Test/ToyasCard.lean, 'card_holds'). Laid BY PROGRAM, IN A SANDBOX (cutbox-door.mjs). By AI agents, Wed Nov 11 2026. No macro, syntax, notation, axiom, sorry.
-/
import Derived.Test.YtcjnheabkdalbaaDoorRows
import GoSem.ClaimSeven
namespace Go.Proofs.YtcjnheabkdalbaaDoor
namespace Rows

/-- THE TIED CARD OF 'coppicelaw06.NodeParts'. -/
def nodePartsCard : Claim7 := { stood := { row := nodePartsRow, standIns := [], harness := (true, "01cd41b658a219766dd33d76392ed3e3435f848c2a77bc3c39e6877e87913646"), looks := false }, kinds := [], alts := [], laidByText := true, laidKinds := [.data, .data], laidTests := true, laidLooks := .later }
def NodePartsCardSaid : Prop := Claim7.holds Tryd.pinned (.plain (OpenSpec.ofChange nodePartsSpec)) nodePartsCard

/-- THE TIED CARD OF 'coppicelaw06.NodeBeside'. -/
def nodeBesideCard : Claim7 := { stood := { row := nodeBesideRow, standIns := [], harness := (true, "01cd41b658a219766dd33d76392ed3e3435f848c2a77bc3c39e6877e87913646"), looks := false }, kinds := [], alts := [], laidByText := true, laidKinds := [.data, .data], laidTests := true, laidLooks := .later }
def NodeBesideCardSaid : Prop := Claim7.holds Tryd.pinned (.plain (OpenSpec.ofChange nodeBesideSpec)) nodeBesideCard

/-- THE SECOND FORM's CARD OF 'coppicelaw06.NodeParts'. -/
def nodePartsUptoCard : Claim7 := { stood := { row := nodePartsUptoRow, standIns := [], harness := (true, "01cd41b658a219766dd33d76392ed3e3435f848c2a77bc3c39e6877e87913646"), looks := false }, kinds := [], alts := [], laidByText := true, laidKinds := [.data, .data], laidTests := true, laidLooks := .later }
def NodePartsUptoCardSaid : Prop := Claim7.holds Tryd.pinned (.plain (OpenSpec.upto nodePartsSpec)) nodePartsUptoCard

/-- THE SECOND FORM's CARD OF 'coppicelaw06.NodeBeside'. -/
def nodeBesideUptoCard : Claim7 := { stood := { row := nodeBesideUptoRow, standIns := [], harness := (true, "01cd41b658a219766dd33d76392ed3e3435f848c2a77bc3c39e6877e87913646"), looks := false }, kinds := [], alts := [], laidByText := true, laidKinds := [.data, .data], laidTests := true, laidLooks := .later }
def NodeBesideUptoCardSaid : Prop := Claim7.holds Tryd.pinned (.plain (OpenSpec.upto nodeBesideSpec)) nodeBesideUptoCard
end Rows
end Go.Proofs.YtcjnheabkdalbaaDoor
