/-
  DERIVED. GIVEN WITH THE SEED: THE CARDS: each row of YtbdmehgbdnninaaDoorRows.lean that lists a variable, with what it lists TIED to the program's text (the seventh form; the later family's looks); each row that meets fmt, with fmt's text TOLD by the authors' own Lean function (tested against real Go, not proved from fmt's source: count such statements apart). THE CARD IS WHAT COUNTS. Prove the row's statement (the work); the ties are given (YtbdmehgbdnninaaDoorTie.lean); close each card by the builder's one call (the guide's Derived/Test/ToyasCard.lean, 'card_holds'). Laid BY PROGRAM, IN A SANDBOX (cutbox-door.mjs). By AI agents, Wed Nov 11 2026. No macro, syntax, notation, axiom, sorry.
-/
import Derived.Test.YtbdmehgbdnninaaDoorRows
import GoSem.ClaimSeven
namespace Go.Proofs.YtbdmehgbdnninaaDoor
namespace Rows

/-- THE TIED CARD OF 'coppicelaw04.TreeRoots'. -/
def treeRootsCard : Claim7 := { stood := { row := treeRootsRow, standIns := [], harness := (true, "7928fe6865cf86651f96721a2e19dc47cc4edcb52e707bcb1512da7afa98c39a"), looks := false }, kinds := [], alts := [], laidByText := true, laidKinds := [.data], laidTests := true, laidLooks := .later }
def TreeRootsCardSaid : Prop := Claim7.holds Tryd.pinned (.plain (OpenSpec.ofChange treeRootsSpec)) treeRootsCard

/-- THE TIED CARD OF 'coppicelaw04.TreeDigests'. -/
def treeDigestsCard : Claim7 := { stood := { row := treeDigestsRow, standIns := [], harness := (true, "7928fe6865cf86651f96721a2e19dc47cc4edcb52e707bcb1512da7afa98c39a"), looks := false }, kinds := [], alts := [], laidByText := true, laidKinds := [.data], laidTests := true, laidLooks := .later }
def TreeDigestsCardSaid : Prop := Claim7.holds Tryd.pinned (.plain (OpenSpec.ofChange treeDigestsSpec)) treeDigestsCard

/-- THE TIED CARD OF 'coppicelaw04.TreeHalves'. -/
def treeHalvesCard : Claim7 := { stood := { row := treeHalvesRow, standIns := [], harness := (true, "7928fe6865cf86651f96721a2e19dc47cc4edcb52e707bcb1512da7afa98c39a"), looks := false }, kinds := [], alts := [], laidByText := true, laidKinds := [.data], laidTests := true, laidLooks := .later }
def TreeHalvesCardSaid : Prop := Claim7.holds Tryd.pinned (.plain (OpenSpec.ofChange treeHalvesSpec)) treeHalvesCard

/-- THE TIED CARD OF 'coppicelaw07.VerifyPaths'. -/
def verifyPathsCard : Claim7 := { stood := { row := verifyPathsRow, standIns := [], harness := (true, "7928fe6865cf86651f96721a2e19dc47cc4edcb52e707bcb1512da7afa98c39a"), looks := false }, kinds := [], alts := [], laidByText := true, laidKinds := [.data], laidTests := true, laidLooks := .later }
def VerifyPathsCardSaid : Prop := Claim7.holds Tryd.pinned (.plain (OpenSpec.ofChange verifyPathsSpec)) verifyPathsCard

/-- THE TIED CARD OF 'coppicelaw04.TreePaths'. -/
def treePathsCard : Claim7 := { stood := { row := treePathsRow, standIns := [], harness := (true, "7928fe6865cf86651f96721a2e19dc47cc4edcb52e707bcb1512da7afa98c39a"), looks := false }, kinds := [], alts := [], laidByText := true, laidKinds := [.data], laidTests := true, laidLooks := .later }
def TreePathsCardSaid : Prop := Claim7.holds Tryd.pinned (.plain (OpenSpec.ofChange treePathsSpec)) treePathsCard

/-- THE TIED CARD OF 'coppicelaw04.TreeSteps'. -/
def treeStepsCard : Claim7 := { stood := { row := treeStepsRow, standIns := [], harness := (true, "7928fe6865cf86651f96721a2e19dc47cc4edcb52e707bcb1512da7afa98c39a"), looks := false }, kinds := [], alts := [], laidByText := true, laidKinds := [.data], laidTests := true, laidLooks := .later }
def TreeStepsCardSaid : Prop := Claim7.holds Tryd.pinned (.plain (OpenSpec.ofChange treeStepsSpec)) treeStepsCard

/-- THE TIED CARD OF 'coppicelaw07.VerifySteps'. -/
def verifyStepsCard : Claim7 := { stood := { row := verifyStepsRow, standIns := [], harness := (true, "7928fe6865cf86651f96721a2e19dc47cc4edcb52e707bcb1512da7afa98c39a"), looks := false }, kinds := [], alts := [], laidByText := true, laidKinds := [.data], laidTests := true, laidLooks := .later }
def VerifyStepsCardSaid : Prop := Claim7.holds Tryd.pinned (.plain (OpenSpec.ofChange verifyStepsSpec)) verifyStepsCard

/-- THE TIED CARD OF 'coppicelaw04.TreeFolds'. -/
def treeFoldsCard : Claim7 := { stood := { row := treeFoldsRow, standIns := [], harness := (true, "7928fe6865cf86651f96721a2e19dc47cc4edcb52e707bcb1512da7afa98c39a"), looks := false }, kinds := [], alts := [], laidByText := true, laidKinds := [.data], laidTests := true, laidLooks := .later }
def TreeFoldsCardSaid : Prop := Claim7.holds Tryd.pinned (.plain (OpenSpec.ofChange treeFoldsSpec)) treeFoldsCard

/-- THE TIED CARD OF 'coppicelaw07.VerifyTurned'. -/
def verifyTurnedCard : Claim7 := { stood := { row := verifyTurnedRow, standIns := [], harness := (true, "7928fe6865cf86651f96721a2e19dc47cc4edcb52e707bcb1512da7afa98c39a"), looks := false }, kinds := [], alts := [], laidByText := true, laidKinds := [.data], laidTests := true, laidLooks := .later }
def VerifyTurnedCardSaid : Prop := Claim7.holds Tryd.pinned (.plain (OpenSpec.ofChange verifyTurnedSpec)) verifyTurnedCard

/-- THE TIED CARD OF 'coppicelaw07.VerifyBack'. -/
def verifyBackCard : Claim7 := { stood := { row := verifyBackRow, standIns := [], harness := (true, "7928fe6865cf86651f96721a2e19dc47cc4edcb52e707bcb1512da7afa98c39a"), looks := false }, kinds := [], alts := [], laidByText := true, laidKinds := [.data], laidTests := true, laidLooks := .later }
def VerifyBackCardSaid : Prop := Claim7.holds Tryd.pinned (.plain (OpenSpec.ofChange verifyBackSpec)) verifyBackCard

/-- THE SECOND FORM's CARD OF 'coppicelaw04.TreeRoots'. -/
def treeRootsUptoCard : Claim7 := { stood := { row := treeRootsUptoRow, standIns := [], harness := (true, "7928fe6865cf86651f96721a2e19dc47cc4edcb52e707bcb1512da7afa98c39a"), looks := false }, kinds := [], alts := [], laidByText := true, laidKinds := [.data], laidTests := true, laidLooks := .later }
def TreeRootsUptoCardSaid : Prop := Claim7.holds Tryd.pinned (.plain (OpenSpec.upto treeRootsSpec)) treeRootsUptoCard

/-- THE SECOND FORM's CARD OF 'coppicelaw04.TreeDigests'. -/
def treeDigestsUptoCard : Claim7 := { stood := { row := treeDigestsUptoRow, standIns := [], harness := (true, "7928fe6865cf86651f96721a2e19dc47cc4edcb52e707bcb1512da7afa98c39a"), looks := false }, kinds := [], alts := [], laidByText := true, laidKinds := [.data], laidTests := true, laidLooks := .later }
def TreeDigestsUptoCardSaid : Prop := Claim7.holds Tryd.pinned (.plain (OpenSpec.upto treeDigestsSpec)) treeDigestsUptoCard

/-- THE SECOND FORM's CARD OF 'coppicelaw04.TreeHalves'. -/
def treeHalvesUptoCard : Claim7 := { stood := { row := treeHalvesUptoRow, standIns := [], harness := (true, "7928fe6865cf86651f96721a2e19dc47cc4edcb52e707bcb1512da7afa98c39a"), looks := false }, kinds := [], alts := [], laidByText := true, laidKinds := [.data], laidTests := true, laidLooks := .later }
def TreeHalvesUptoCardSaid : Prop := Claim7.holds Tryd.pinned (.plain (OpenSpec.upto treeHalvesSpec)) treeHalvesUptoCard

/-- THE SECOND FORM's CARD OF 'coppicelaw07.VerifyPaths'. -/
def verifyPathsUptoCard : Claim7 := { stood := { row := verifyPathsUptoRow, standIns := [], harness := (true, "7928fe6865cf86651f96721a2e19dc47cc4edcb52e707bcb1512da7afa98c39a"), looks := false }, kinds := [], alts := [], laidByText := true, laidKinds := [.data], laidTests := true, laidLooks := .later }
def VerifyPathsUptoCardSaid : Prop := Claim7.holds Tryd.pinned (.plain (OpenSpec.upto verifyPathsSpec)) verifyPathsUptoCard

/-- THE SECOND FORM's CARD OF 'coppicelaw04.TreePaths'. -/
def treePathsUptoCard : Claim7 := { stood := { row := treePathsUptoRow, standIns := [], harness := (true, "7928fe6865cf86651f96721a2e19dc47cc4edcb52e707bcb1512da7afa98c39a"), looks := false }, kinds := [], alts := [], laidByText := true, laidKinds := [.data], laidTests := true, laidLooks := .later }
def TreePathsUptoCardSaid : Prop := Claim7.holds Tryd.pinned (.plain (OpenSpec.upto treePathsSpec)) treePathsUptoCard

/-- THE SECOND FORM's CARD OF 'coppicelaw04.TreeSteps'. -/
def treeStepsUptoCard : Claim7 := { stood := { row := treeStepsUptoRow, standIns := [], harness := (true, "7928fe6865cf86651f96721a2e19dc47cc4edcb52e707bcb1512da7afa98c39a"), looks := false }, kinds := [], alts := [], laidByText := true, laidKinds := [.data], laidTests := true, laidLooks := .later }
def TreeStepsUptoCardSaid : Prop := Claim7.holds Tryd.pinned (.plain (OpenSpec.upto treeStepsSpec)) treeStepsUptoCard

/-- THE SECOND FORM's CARD OF 'coppicelaw07.VerifySteps'. -/
def verifyStepsUptoCard : Claim7 := { stood := { row := verifyStepsUptoRow, standIns := [], harness := (true, "7928fe6865cf86651f96721a2e19dc47cc4edcb52e707bcb1512da7afa98c39a"), looks := false }, kinds := [], alts := [], laidByText := true, laidKinds := [.data], laidTests := true, laidLooks := .later }
def VerifyStepsUptoCardSaid : Prop := Claim7.holds Tryd.pinned (.plain (OpenSpec.upto verifyStepsSpec)) verifyStepsUptoCard

/-- THE SECOND FORM's CARD OF 'coppicelaw04.TreeFolds'. -/
def treeFoldsUptoCard : Claim7 := { stood := { row := treeFoldsUptoRow, standIns := [], harness := (true, "7928fe6865cf86651f96721a2e19dc47cc4edcb52e707bcb1512da7afa98c39a"), looks := false }, kinds := [], alts := [], laidByText := true, laidKinds := [.data], laidTests := true, laidLooks := .later }
def TreeFoldsUptoCardSaid : Prop := Claim7.holds Tryd.pinned (.plain (OpenSpec.upto treeFoldsSpec)) treeFoldsUptoCard

/-- THE SECOND FORM's CARD OF 'coppicelaw07.VerifyTurned'. -/
def verifyTurnedUptoCard : Claim7 := { stood := { row := verifyTurnedUptoRow, standIns := [], harness := (true, "7928fe6865cf86651f96721a2e19dc47cc4edcb52e707bcb1512da7afa98c39a"), looks := false }, kinds := [], alts := [], laidByText := true, laidKinds := [.data], laidTests := true, laidLooks := .later }
def VerifyTurnedUptoCardSaid : Prop := Claim7.holds Tryd.pinned (.plain (OpenSpec.upto verifyTurnedSpec)) verifyTurnedUptoCard

/-- THE SECOND FORM's CARD OF 'coppicelaw07.VerifyBack'. -/
def verifyBackUptoCard : Claim7 := { stood := { row := verifyBackUptoRow, standIns := [], harness := (true, "7928fe6865cf86651f96721a2e19dc47cc4edcb52e707bcb1512da7afa98c39a"), looks := false }, kinds := [], alts := [], laidByText := true, laidKinds := [.data], laidTests := true, laidLooks := .later }
def VerifyBackUptoCardSaid : Prop := Claim7.holds Tryd.pinned (.plain (OpenSpec.upto verifyBackSpec)) verifyBackUptoCard
end Rows
end Go.Proofs.YtbdmehgbdnninaaDoor
