/-
  DERIVED. GIVEN WITH THE SEED: THE CARDS: each row of YtlhebogbbkjahaaDoorRows.lean that lists a variable, with what it lists TIED to the program's text (the seventh form; the later family's looks); each row that meets fmt, with fmt's text TOLD by the authors' own Lean function (tested against real Go, not proved from fmt's source: count such statements apart). THE CARD IS WHAT COUNTS. Prove the row's statement (the work); the ties are given (YtlhebogbbkjahaaDoorTie.lean); close each card by the builder's one call (the guide's Derived/Test/ToyasCard.lean, 'card_holds'). Laid BY PROGRAM, IN A SANDBOX (cutbox-door.mjs). By AI agents, Wed Nov 11 2026. No macro, syntax, notation, axiom, sorry.
-/
import Derived.Test.YtlhebogbbkjahaaDoorRows
import GoSem.ClaimSeven
namespace Go.Proofs.YtlhebogbbkjahaaDoor
namespace Rows

/-- THE TIED CARD OF 'coppicelaw05.CompactTree'. -/
def compactTreeCard : Claim7 := { stood := { row := compactTreeRow, standIns := [], harness := (true, "a1211fd7118d58234cfc2a7d85f073a4cd0f829488d7e91cc0fd96c8b2f5da28"), looks := false }, kinds := [], alts := [], laidByText := true, laidKinds := [.data], laidTests := true, laidLooks := .later }
def CompactTreeCardSaid : Prop := Claim7.holds Tryd.pinned (.plain (OpenSpec.ofChange compactTreeSpec)) compactTreeCard

/-- THE TIED CARD OF 'coppicelaw05.CompactPlays'. -/
def compactPlaysCard : Claim7 := { stood := { row := compactPlaysRow, standIns := [], harness := (true, "a1211fd7118d58234cfc2a7d85f073a4cd0f829488d7e91cc0fd96c8b2f5da28"), looks := false }, kinds := [], alts := [], laidByText := true, laidKinds := [.data], laidTests := true, laidLooks := .later }
def CompactPlaysCardSaid : Prop := Claim7.holds Tryd.pinned (.plain (OpenSpec.ofChange compactPlaysSpec)) compactPlaysCard

/-- THE TIED CARD OF 'coppicelaw05.CompactNobody'. -/
def compactNobodyCard : Claim7 := { stood := { row := compactNobodyRow, standIns := [], harness := (true, "a1211fd7118d58234cfc2a7d85f073a4cd0f829488d7e91cc0fd96c8b2f5da28"), looks := false }, kinds := [], alts := [], laidByText := true, laidKinds := [.data], laidTests := true, laidLooks := .later }
def CompactNobodyCardSaid : Prop := Claim7.holds Tryd.pinned (.plain (OpenSpec.ofChange compactNobodySpec)) compactNobodyCard

/-- THE TIED CARD OF 'coppicelaw05.CompactMerges'. -/
def compactMergesCard : Claim7 := { stood := { row := compactMergesRow, standIns := [], harness := (true, "a1211fd7118d58234cfc2a7d85f073a4cd0f829488d7e91cc0fd96c8b2f5da28"), looks := false }, kinds := [], alts := [], laidByText := true, laidKinds := [.data], laidTests := true, laidLooks := .later }
def CompactMergesCardSaid : Prop := Claim7.holds Tryd.pinned (.plain (OpenSpec.ofChange compactMergesSpec)) compactMergesCard

/-- THE TIED CARD OF 'coppicelaw05.CompactLoads'. -/
def compactLoadsCard : Claim7 := { stood := { row := compactLoadsRow, standIns := [], harness := (true, "a1211fd7118d58234cfc2a7d85f073a4cd0f829488d7e91cc0fd96c8b2f5da28"), looks := false }, kinds := [], alts := [], laidByText := true, laidKinds := [.data], laidTests := true, laidLooks := .later }
def CompactLoadsCardSaid : Prop := Claim7.holds Tryd.pinned (.plain (OpenSpec.ofChange compactLoadsSpec)) compactLoadsCard

/-- THE TIED CARD OF 'coppicelaw27.MirrorNobody'. -/
def mirrorNobodyCard : Claim7 := { stood := { row := mirrorNobodyRow, standIns := [], harness := (true, "a1211fd7118d58234cfc2a7d85f073a4cd0f829488d7e91cc0fd96c8b2f5da28"), looks := false }, kinds := [], alts := [], laidByText := true, laidKinds := [.data], laidTests := true, laidLooks := .later }
def MirrorNobodyCardSaid : Prop := Claim7.holds Tryd.pinned (.plain (OpenSpec.ofChange mirrorNobodySpec)) mirrorNobodyCard

/-- THE SECOND FORM's CARD OF 'coppicelaw05.CompactTree'. -/
def compactTreeUptoCard : Claim7 := { stood := { row := compactTreeUptoRow, standIns := [], harness := (true, "a1211fd7118d58234cfc2a7d85f073a4cd0f829488d7e91cc0fd96c8b2f5da28"), looks := false }, kinds := [], alts := [], laidByText := true, laidKinds := [.data], laidTests := true, laidLooks := .later }
def CompactTreeUptoCardSaid : Prop := Claim7.holds Tryd.pinned (.plain (OpenSpec.upto compactTreeSpec)) compactTreeUptoCard

/-- THE SECOND FORM's CARD OF 'coppicelaw05.CompactPlays'. -/
def compactPlaysUptoCard : Claim7 := { stood := { row := compactPlaysUptoRow, standIns := [], harness := (true, "a1211fd7118d58234cfc2a7d85f073a4cd0f829488d7e91cc0fd96c8b2f5da28"), looks := false }, kinds := [], alts := [], laidByText := true, laidKinds := [.data], laidTests := true, laidLooks := .later }
def CompactPlaysUptoCardSaid : Prop := Claim7.holds Tryd.pinned (.plain (OpenSpec.upto compactPlaysSpec)) compactPlaysUptoCard

/-- THE SECOND FORM's CARD OF 'coppicelaw05.CompactNobody'. -/
def compactNobodyUptoCard : Claim7 := { stood := { row := compactNobodyUptoRow, standIns := [], harness := (true, "a1211fd7118d58234cfc2a7d85f073a4cd0f829488d7e91cc0fd96c8b2f5da28"), looks := false }, kinds := [], alts := [], laidByText := true, laidKinds := [.data], laidTests := true, laidLooks := .later }
def CompactNobodyUptoCardSaid : Prop := Claim7.holds Tryd.pinned (.plain (OpenSpec.upto compactNobodySpec)) compactNobodyUptoCard

/-- THE SECOND FORM's CARD OF 'coppicelaw05.CompactMerges'. -/
def compactMergesUptoCard : Claim7 := { stood := { row := compactMergesUptoRow, standIns := [], harness := (true, "a1211fd7118d58234cfc2a7d85f073a4cd0f829488d7e91cc0fd96c8b2f5da28"), looks := false }, kinds := [], alts := [], laidByText := true, laidKinds := [.data], laidTests := true, laidLooks := .later }
def CompactMergesUptoCardSaid : Prop := Claim7.holds Tryd.pinned (.plain (OpenSpec.upto compactMergesSpec)) compactMergesUptoCard

/-- THE SECOND FORM's CARD OF 'coppicelaw05.CompactLoads'. -/
def compactLoadsUptoCard : Claim7 := { stood := { row := compactLoadsUptoRow, standIns := [], harness := (true, "a1211fd7118d58234cfc2a7d85f073a4cd0f829488d7e91cc0fd96c8b2f5da28"), looks := false }, kinds := [], alts := [], laidByText := true, laidKinds := [.data], laidTests := true, laidLooks := .later }
def CompactLoadsUptoCardSaid : Prop := Claim7.holds Tryd.pinned (.plain (OpenSpec.upto compactLoadsSpec)) compactLoadsUptoCard

/-- THE SECOND FORM's CARD OF 'coppicelaw27.MirrorNobody'. -/
def mirrorNobodyUptoCard : Claim7 := { stood := { row := mirrorNobodyUptoRow, standIns := [], harness := (true, "a1211fd7118d58234cfc2a7d85f073a4cd0f829488d7e91cc0fd96c8b2f5da28"), looks := false }, kinds := [], alts := [], laidByText := true, laidKinds := [.data], laidTests := true, laidLooks := .later }
def MirrorNobodyUptoCardSaid : Prop := Claim7.holds Tryd.pinned (.plain (OpenSpec.upto mirrorNobodySpec)) mirrorNobodyUptoCard
end Rows
end Go.Proofs.YtlhebogbbkjahaaDoor
