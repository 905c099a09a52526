/-
  DERIVED. GIVEN WITH THE SEED: THE CARDS: each row of YtepcjdifjjombaaDoorRows.lean that lists a variable, with what it lists TIED to the program's text (the seventh form; the later family's looks); each row that meets fmt, with fmt's text TOLD by the authors' own Lean function (tested against real Go, not proved from fmt's source: count such statements apart). THE CARD IS WHAT COUNTS. Prove the row's statement (the work); the ties are given (YtepcjdifjjombaaDoorTie.lean); close each card by the builder's one call (the guide's Derived/Test/ToyasCard.lean, 'card_holds'). Laid BY PROGRAM, IN A SANDBOX (cutbox-door.mjs). By AI agents, Wed Nov 11 2026. No macro, syntax, notation, axiom, sorry.
-/
import Derived.Test.YtepcjdifjjombaaDoorRows
import GoSem.ClaimSeven
namespace Go.Proofs.YtepcjdifjjombaaDoor
namespace Rows

/-- THE TIED CARD OF 'coppicelaw02.HashBlocks'. -/
def hashBlocksCard : Claim7 := { stood := { row := hashBlocksRow, standIns := [], harness := (true, "1f7574a5c8bcd5de00670f3c874dd9715470ad2341cbcd31b196612652b1f76f"), looks := false }, kinds := [], alts := [], laidByText := true, laidKinds := [.data], laidTests := true, laidLooks := .later }
def HashBlocksCardSaid : Prop := Claim7.holds Tryd.pinned (.plain (OpenSpec.ofChange hashBlocksSpec)) hashBlocksCard

/-- THE TIED CARD OF 'coppicelaw02.HashSums'. -/
def hashSumsCard : Claim7 := { stood := { row := hashSumsRow, standIns := [], harness := (true, "1f7574a5c8bcd5de00670f3c874dd9715470ad2341cbcd31b196612652b1f76f"), looks := false }, kinds := [], alts := [], laidByText := true, laidKinds := [.data], laidTests := true, laidLooks := .later }
def HashSumsCardSaid : Prop := Claim7.holds Tryd.pinned (.plain (OpenSpec.ofChange hashSumsSpec)) hashSumsCard

/-- THE TIED CARD OF 'coppicelaw02.HashPieces'. -/
def hashPiecesCard : Claim7 := { stood := { row := hashPiecesRow, standIns := [], harness := (true, "1f7574a5c8bcd5de00670f3c874dd9715470ad2341cbcd31b196612652b1f76f"), looks := false }, kinds := [], alts := [], laidByText := true, laidKinds := [.data], laidTests := true, laidLooks := .later }
def HashPiecesCardSaid : Prop := Claim7.holds Tryd.pinned (.plain (OpenSpec.ofChange hashPiecesSpec)) hashPiecesCard

/-- THE TIED CARD OF 'coppicelaw03.MacNobody'. -/
def macNobodyCard : Claim7 := { stood := { row := macNobodyRow, standIns := [], harness := (true, "1f7574a5c8bcd5de00670f3c874dd9715470ad2341cbcd31b196612652b1f76f"), looks := false }, kinds := [], alts := [], laidByText := true, laidKinds := [.data], laidTests := true, laidLooks := .later }
def MacNobodyCardSaid : Prop := Claim7.holds Tryd.pinned (.plain (OpenSpec.ofChange macNobodySpec)) macNobodyCard

/-- THE TIED CARD OF 'coppicelaw02.HashNobody'. -/
def hashNobodyCard : Claim7 := { stood := { row := hashNobodyRow, standIns := [], harness := (true, "1f7574a5c8bcd5de00670f3c874dd9715470ad2341cbcd31b196612652b1f76f"), looks := false }, kinds := [], alts := [], laidByText := true, laidKinds := [.data], laidTests := true, laidLooks := .later }
def HashNobodyCardSaid : Prop := Claim7.holds Tryd.pinned (.plain (OpenSpec.ofChange hashNobodySpec)) hashNobodyCard

/-- THE TIED CARD OF 'coppicelaw02.HashLengthens'. -/
def hashLengthensCard : Claim7 := { stood := { row := hashLengthensRow, standIns := [], harness := (true, "1f7574a5c8bcd5de00670f3c874dd9715470ad2341cbcd31b196612652b1f76f"), looks := false }, kinds := [], alts := [], laidByText := true, laidKinds := [.data], laidTests := true, laidLooks := .later }
def HashLengthensCardSaid : Prop := Claim7.holds Tryd.pinned (.plain (OpenSpec.ofChange hashLengthensSpec)) hashLengthensCard

/-- THE TIED CARD OF 'coppicelaw02.HashGrows'. -/
def hashGrowsCard : Claim7 := { stood := { row := hashGrowsRow, standIns := [], harness := (true, "1f7574a5c8bcd5de00670f3c874dd9715470ad2341cbcd31b196612652b1f76f"), looks := false }, kinds := [], alts := [], laidByText := true, laidKinds := [.data], laidTests := true, laidLooks := .later }
def HashGrowsCardSaid : Prop := Claim7.holds Tryd.pinned (.plain (OpenSpec.ofChange hashGrowsSpec)) hashGrowsCard

/-- THE TIED CARD OF 'coppicelaw02.HashLoads'. -/
def hashLoadsCard : Claim7 := { stood := { row := hashLoadsRow, standIns := [], harness := (true, "1f7574a5c8bcd5de00670f3c874dd9715470ad2341cbcd31b196612652b1f76f"), looks := false }, kinds := [], alts := [], laidByText := true, laidKinds := [.data], laidTests := true, laidLooks := .later }
def HashLoadsCardSaid : Prop := Claim7.holds Tryd.pinned (.plain (OpenSpec.ofChange hashLoadsSpec)) hashLoadsCard

/-- THE TIED CARD OF 'coppicelaw03.MacGrows'. -/
def macGrowsCard : Claim7 := { stood := { row := macGrowsRow, standIns := [], harness := (true, "1f7574a5c8bcd5de00670f3c874dd9715470ad2341cbcd31b196612652b1f76f"), looks := false }, kinds := [], alts := [], laidByText := true, laidKinds := [.data], laidTests := true, laidLooks := .later }
def MacGrowsCardSaid : Prop := Claim7.holds Tryd.pinned (.plain (OpenSpec.ofChange macGrowsSpec)) macGrowsCard

/-- THE TIED CARD OF 'coppicelaw03.MacLong'. -/
def macLongCard : Claim7 := { stood := { row := macLongRow, standIns := [], harness := (true, "1f7574a5c8bcd5de00670f3c874dd9715470ad2341cbcd31b196612652b1f76f"), looks := false }, kinds := [], alts := [], laidByText := true, laidKinds := [.data], laidTests := true, laidLooks := .later }
def MacLongCardSaid : Prop := Claim7.holds Tryd.pinned (.plain (OpenSpec.ofChange macLongSpec)) macLongCard

/-- THE TIED CARD OF 'coppicelaw03.MacTells'. -/
def macTellsCard : Claim7 := { stood := { row := macTellsRow, standIns := [], harness := (true, "1f7574a5c8bcd5de00670f3c874dd9715470ad2341cbcd31b196612652b1f76f"), looks := false }, kinds := [], alts := [], laidByText := true, laidKinds := [.data], laidTests := true, laidLooks := .later }
def MacTellsCardSaid : Prop := Claim7.holds Tryd.pinned (.plain (OpenSpec.ofChange macTellsSpec)) macTellsCard

/-- THE SECOND FORM's CARD OF 'coppicelaw02.HashBlocks'. -/
def hashBlocksUptoCard : Claim7 := { stood := { row := hashBlocksUptoRow, standIns := [], harness := (true, "1f7574a5c8bcd5de00670f3c874dd9715470ad2341cbcd31b196612652b1f76f"), looks := false }, kinds := [], alts := [], laidByText := true, laidKinds := [.data], laidTests := true, laidLooks := .later }
def HashBlocksUptoCardSaid : Prop := Claim7.holds Tryd.pinned (.plain (OpenSpec.upto hashBlocksSpec)) hashBlocksUptoCard

/-- THE SECOND FORM's CARD OF 'coppicelaw02.HashSums'. -/
def hashSumsUptoCard : Claim7 := { stood := { row := hashSumsUptoRow, standIns := [], harness := (true, "1f7574a5c8bcd5de00670f3c874dd9715470ad2341cbcd31b196612652b1f76f"), looks := false }, kinds := [], alts := [], laidByText := true, laidKinds := [.data], laidTests := true, laidLooks := .later }
def HashSumsUptoCardSaid : Prop := Claim7.holds Tryd.pinned (.plain (OpenSpec.upto hashSumsSpec)) hashSumsUptoCard

/-- THE SECOND FORM's CARD OF 'coppicelaw02.HashPieces'. -/
def hashPiecesUptoCard : Claim7 := { stood := { row := hashPiecesUptoRow, standIns := [], harness := (true, "1f7574a5c8bcd5de00670f3c874dd9715470ad2341cbcd31b196612652b1f76f"), looks := false }, kinds := [], alts := [], laidByText := true, laidKinds := [.data], laidTests := true, laidLooks := .later }
def HashPiecesUptoCardSaid : Prop := Claim7.holds Tryd.pinned (.plain (OpenSpec.upto hashPiecesSpec)) hashPiecesUptoCard

/-- THE SECOND FORM's CARD OF 'coppicelaw03.MacNobody'. -/
def macNobodyUptoCard : Claim7 := { stood := { row := macNobodyUptoRow, standIns := [], harness := (true, "1f7574a5c8bcd5de00670f3c874dd9715470ad2341cbcd31b196612652b1f76f"), looks := false }, kinds := [], alts := [], laidByText := true, laidKinds := [.data], laidTests := true, laidLooks := .later }
def MacNobodyUptoCardSaid : Prop := Claim7.holds Tryd.pinned (.plain (OpenSpec.upto macNobodySpec)) macNobodyUptoCard

/-- THE SECOND FORM's CARD OF 'coppicelaw02.HashNobody'. -/
def hashNobodyUptoCard : Claim7 := { stood := { row := hashNobodyUptoRow, standIns := [], harness := (true, "1f7574a5c8bcd5de00670f3c874dd9715470ad2341cbcd31b196612652b1f76f"), looks := false }, kinds := [], alts := [], laidByText := true, laidKinds := [.data], laidTests := true, laidLooks := .later }
def HashNobodyUptoCardSaid : Prop := Claim7.holds Tryd.pinned (.plain (OpenSpec.upto hashNobodySpec)) hashNobodyUptoCard

/-- THE SECOND FORM's CARD OF 'coppicelaw02.HashLengthens'. -/
def hashLengthensUptoCard : Claim7 := { stood := { row := hashLengthensUptoRow, standIns := [], harness := (true, "1f7574a5c8bcd5de00670f3c874dd9715470ad2341cbcd31b196612652b1f76f"), looks := false }, kinds := [], alts := [], laidByText := true, laidKinds := [.data], laidTests := true, laidLooks := .later }
def HashLengthensUptoCardSaid : Prop := Claim7.holds Tryd.pinned (.plain (OpenSpec.upto hashLengthensSpec)) hashLengthensUptoCard

/-- THE SECOND FORM's CARD OF 'coppicelaw02.HashGrows'. -/
def hashGrowsUptoCard : Claim7 := { stood := { row := hashGrowsUptoRow, standIns := [], harness := (true, "1f7574a5c8bcd5de00670f3c874dd9715470ad2341cbcd31b196612652b1f76f"), looks := false }, kinds := [], alts := [], laidByText := true, laidKinds := [.data], laidTests := true, laidLooks := .later }
def HashGrowsUptoCardSaid : Prop := Claim7.holds Tryd.pinned (.plain (OpenSpec.upto hashGrowsSpec)) hashGrowsUptoCard

/-- THE SECOND FORM's CARD OF 'coppicelaw02.HashLoads'. -/
def hashLoadsUptoCard : Claim7 := { stood := { row := hashLoadsUptoRow, standIns := [], harness := (true, "1f7574a5c8bcd5de00670f3c874dd9715470ad2341cbcd31b196612652b1f76f"), looks := false }, kinds := [], alts := [], laidByText := true, laidKinds := [.data], laidTests := true, laidLooks := .later }
def HashLoadsUptoCardSaid : Prop := Claim7.holds Tryd.pinned (.plain (OpenSpec.upto hashLoadsSpec)) hashLoadsUptoCard

/-- THE SECOND FORM's CARD OF 'coppicelaw03.MacGrows'. -/
def macGrowsUptoCard : Claim7 := { stood := { row := macGrowsUptoRow, standIns := [], harness := (true, "1f7574a5c8bcd5de00670f3c874dd9715470ad2341cbcd31b196612652b1f76f"), looks := false }, kinds := [], alts := [], laidByText := true, laidKinds := [.data], laidTests := true, laidLooks := .later }
def MacGrowsUptoCardSaid : Prop := Claim7.holds Tryd.pinned (.plain (OpenSpec.upto macGrowsSpec)) macGrowsUptoCard

/-- THE SECOND FORM's CARD OF 'coppicelaw03.MacLong'. -/
def macLongUptoCard : Claim7 := { stood := { row := macLongUptoRow, standIns := [], harness := (true, "1f7574a5c8bcd5de00670f3c874dd9715470ad2341cbcd31b196612652b1f76f"), looks := false }, kinds := [], alts := [], laidByText := true, laidKinds := [.data], laidTests := true, laidLooks := .later }
def MacLongUptoCardSaid : Prop := Claim7.holds Tryd.pinned (.plain (OpenSpec.upto macLongSpec)) macLongUptoCard

/-- THE SECOND FORM's CARD OF 'coppicelaw03.MacTells'. -/
def macTellsUptoCard : Claim7 := { stood := { row := macTellsUptoRow, standIns := [], harness := (true, "1f7574a5c8bcd5de00670f3c874dd9715470ad2341cbcd31b196612652b1f76f"), looks := false }, kinds := [], alts := [], laidByText := true, laidKinds := [.data], laidTests := true, laidLooks := .later }
def MacTellsUptoCardSaid : Prop := Claim7.holds Tryd.pinned (.plain (OpenSpec.upto macTellsSpec)) macTellsUptoCard
end Rows
end Go.Proofs.YtepcjdifjjombaaDoor
