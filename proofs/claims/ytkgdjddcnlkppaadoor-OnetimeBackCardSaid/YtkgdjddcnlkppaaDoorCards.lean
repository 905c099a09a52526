/-
  DERIVED. GIVEN WITH THE SEED: THE CARDS: each row of YtkgdjddcnlkppaaDoorRows.lean that lists a variable, with what it lists TIED to the program's text (the seventh form; the later family's looks); each row that meets fmt, with fmt's text TOLD by the authors' own Lean function (tested against real Go, not proved from fmt's source: count such statements apart). THE CARD IS WHAT COUNTS. Prove the row's statement (the work); the ties are given (YtkgdjddcnlkppaaDoorTie.lean); close each card by the builder's one call (the guide's Derived/Test/ToyasCard.lean, 'card_holds'). Laid BY PROGRAM, IN A SANDBOX (cutbox-door.mjs). By AI agents, Wed Nov 11 2026. No macro, syntax, notation, axiom, sorry.
-/
import Derived.Test.YtkgdjddcnlkppaaDoorRows
import GoSem.ClaimSeven
namespace Go.Proofs.YtkgdjddcnlkppaaDoor
namespace Rows

/-- THE TIED CARD OF 'coppicelaw19.OnetimeChains'. -/
def onetimeChainsCard : Claim7 := { stood := { row := onetimeChainsRow, standIns := [], harness := (true, "6d5edd0e563aaec50e7276508b3146330a0091ed65d171efbb53352cef09f373"), looks := false }, kinds := [], alts := [], laidByText := true, laidKinds := [.data], laidTests := true, laidLooks := .later }
def OnetimeChainsCardSaid : Prop := Claim7.holds Tryd.pinned (.plain (OpenSpec.ofChange onetimeChainsSpec)) onetimeChainsCard

/-- THE TIED CARD OF 'coppicelaw19.OnetimeSteps'. -/
def onetimeStepsCard : Claim7 := { stood := { row := onetimeStepsRow, standIns := [], harness := (true, "6d5edd0e563aaec50e7276508b3146330a0091ed65d171efbb53352cef09f373"), looks := false }, kinds := [], alts := [], laidByText := true, laidKinds := [.data], laidTests := true, laidLooks := .later }
def OnetimeStepsCardSaid : Prop := Claim7.holds Tryd.pinned (.plain (OpenSpec.ofChange onetimeStepsSpec)) onetimeStepsCard

/-- THE TIED CARD OF 'coppicelaw19.OnetimeRecovers'. -/
def onetimeRecoversCard : Claim7 := { stood := { row := onetimeRecoversRow, standIns := [], harness := (true, "6d5edd0e563aaec50e7276508b3146330a0091ed65d171efbb53352cef09f373"), looks := false }, kinds := [], alts := [], laidByText := true, laidKinds := [.data], laidTests := true, laidLooks := .later }
def OnetimeRecoversCardSaid : Prop := Claim7.holds Tryd.pinned (.plain (OpenSpec.ofChange onetimeRecoversSpec)) onetimeRecoversCard

/-- THE TIED CARD OF 'coppicelaw03.MacChildren'. -/
def macChildrenCard : Claim7 := { stood := { row := macChildrenRow, standIns := [], harness := (true, "6d5edd0e563aaec50e7276508b3146330a0091ed65d171efbb53352cef09f373"), looks := false }, kinds := [], alts := [], laidByText := true, laidKinds := [.data], laidTests := true, laidLooks := .later }
def MacChildrenCardSaid : Prop := Claim7.holds Tryd.pinned (.plain (OpenSpec.ofChange macChildrenSpec)) macChildrenCard

/-- THE TIED CARD OF 'coppicelaw03.MacExpands'. -/
def macExpandsCard : Claim7 := { stood := { row := macExpandsRow, standIns := [], harness := (true, "6d5edd0e563aaec50e7276508b3146330a0091ed65d171efbb53352cef09f373"), looks := false }, kinds := [], alts := [], laidByText := true, laidKinds := [.data], laidTests := true, laidLooks := .later }
def MacExpandsCardSaid : Prop := Claim7.holds Tryd.pinned (.plain (OpenSpec.ofChange macExpandsSpec)) macExpandsCard

/-- THE TIED CARD OF 'coppicelaw03.MacBegins'. -/
def macBeginsCard : Claim7 := { stood := { row := macBeginsRow, standIns := [], harness := (true, "6d5edd0e563aaec50e7276508b3146330a0091ed65d171efbb53352cef09f373"), looks := false }, kinds := [], alts := [], laidByText := true, laidKinds := [.data], laidTests := true, laidLooks := .later }
def MacBeginsCardSaid : Prop := Claim7.holds Tryd.pinned (.plain (OpenSpec.ofChange macBeginsSpec)) macBeginsCard

/-- THE TIED CARD OF 'coppicelaw19.OnetimeSigns'. -/
def onetimeSignsCard : Claim7 := { stood := { row := onetimeSignsRow, standIns := [], harness := (true, "6d5edd0e563aaec50e7276508b3146330a0091ed65d171efbb53352cef09f373"), looks := false }, kinds := [], alts := [], laidByText := true, laidKinds := [.data], laidTests := true, laidLooks := .later }
def OnetimeSignsCardSaid : Prop := Claim7.holds Tryd.pinned (.plain (OpenSpec.ofChange onetimeSignsSpec)) onetimeSignsCard

/-- THE TIED CARD OF 'coppicelaw19.OnetimeBack'. -/
def onetimeBackCard : Claim7 := { stood := { row := onetimeBackRow, standIns := [], harness := (true, "6d5edd0e563aaec50e7276508b3146330a0091ed65d171efbb53352cef09f373"), looks := false }, kinds := [], alts := [], laidByText := true, laidKinds := [.data], laidTests := true, laidLooks := .later }
def OnetimeBackCardSaid : Prop := Claim7.holds Tryd.pinned (.plain (OpenSpec.ofChange onetimeBackSpec)) onetimeBackCard

/-- THE SECOND FORM's CARD OF 'coppicelaw19.OnetimeChains'. -/
def onetimeChainsUptoCard : Claim7 := { stood := { row := onetimeChainsUptoRow, standIns := [], harness := (true, "6d5edd0e563aaec50e7276508b3146330a0091ed65d171efbb53352cef09f373"), looks := false }, kinds := [], alts := [], laidByText := true, laidKinds := [.data], laidTests := true, laidLooks := .later }
def OnetimeChainsUptoCardSaid : Prop := Claim7.holds Tryd.pinned (.plain (OpenSpec.upto onetimeChainsSpec)) onetimeChainsUptoCard

/-- THE SECOND FORM's CARD OF 'coppicelaw19.OnetimeSteps'. -/
def onetimeStepsUptoCard : Claim7 := { stood := { row := onetimeStepsUptoRow, standIns := [], harness := (true, "6d5edd0e563aaec50e7276508b3146330a0091ed65d171efbb53352cef09f373"), looks := false }, kinds := [], alts := [], laidByText := true, laidKinds := [.data], laidTests := true, laidLooks := .later }
def OnetimeStepsUptoCardSaid : Prop := Claim7.holds Tryd.pinned (.plain (OpenSpec.upto onetimeStepsSpec)) onetimeStepsUptoCard

/-- THE SECOND FORM's CARD OF 'coppicelaw19.OnetimeRecovers'. -/
def onetimeRecoversUptoCard : Claim7 := { stood := { row := onetimeRecoversUptoRow, standIns := [], harness := (true, "6d5edd0e563aaec50e7276508b3146330a0091ed65d171efbb53352cef09f373"), looks := false }, kinds := [], alts := [], laidByText := true, laidKinds := [.data], laidTests := true, laidLooks := .later }
def OnetimeRecoversUptoCardSaid : Prop := Claim7.holds Tryd.pinned (.plain (OpenSpec.upto onetimeRecoversSpec)) onetimeRecoversUptoCard

/-- THE SECOND FORM's CARD OF 'coppicelaw03.MacChildren'. -/
def macChildrenUptoCard : Claim7 := { stood := { row := macChildrenUptoRow, standIns := [], harness := (true, "6d5edd0e563aaec50e7276508b3146330a0091ed65d171efbb53352cef09f373"), looks := false }, kinds := [], alts := [], laidByText := true, laidKinds := [.data], laidTests := true, laidLooks := .later }
def MacChildrenUptoCardSaid : Prop := Claim7.holds Tryd.pinned (.plain (OpenSpec.upto macChildrenSpec)) macChildrenUptoCard

/-- THE SECOND FORM's CARD OF 'coppicelaw03.MacExpands'. -/
def macExpandsUptoCard : Claim7 := { stood := { row := macExpandsUptoRow, standIns := [], harness := (true, "6d5edd0e563aaec50e7276508b3146330a0091ed65d171efbb53352cef09f373"), looks := false }, kinds := [], alts := [], laidByText := true, laidKinds := [.data], laidTests := true, laidLooks := .later }
def MacExpandsUptoCardSaid : Prop := Claim7.holds Tryd.pinned (.plain (OpenSpec.upto macExpandsSpec)) macExpandsUptoCard

/-- THE SECOND FORM's CARD OF 'coppicelaw03.MacBegins'. -/
def macBeginsUptoCard : Claim7 := { stood := { row := macBeginsUptoRow, standIns := [], harness := (true, "6d5edd0e563aaec50e7276508b3146330a0091ed65d171efbb53352cef09f373"), looks := false }, kinds := [], alts := [], laidByText := true, laidKinds := [.data], laidTests := true, laidLooks := .later }
def MacBeginsUptoCardSaid : Prop := Claim7.holds Tryd.pinned (.plain (OpenSpec.upto macBeginsSpec)) macBeginsUptoCard

/-- THE SECOND FORM's CARD OF 'coppicelaw19.OnetimeSigns'. -/
def onetimeSignsUptoCard : Claim7 := { stood := { row := onetimeSignsUptoRow, standIns := [], harness := (true, "6d5edd0e563aaec50e7276508b3146330a0091ed65d171efbb53352cef09f373"), looks := false }, kinds := [], alts := [], laidByText := true, laidKinds := [.data], laidTests := true, laidLooks := .later }
def OnetimeSignsUptoCardSaid : Prop := Claim7.holds Tryd.pinned (.plain (OpenSpec.upto onetimeSignsSpec)) onetimeSignsUptoCard

/-- THE SECOND FORM's CARD OF 'coppicelaw19.OnetimeBack'. -/
def onetimeBackUptoCard : Claim7 := { stood := { row := onetimeBackUptoRow, standIns := [], harness := (true, "6d5edd0e563aaec50e7276508b3146330a0091ed65d171efbb53352cef09f373"), looks := false }, kinds := [], alts := [], laidByText := true, laidKinds := [.data], laidTests := true, laidLooks := .later }
def OnetimeBackUptoCardSaid : Prop := Claim7.holds Tryd.pinned (.plain (OpenSpec.upto onetimeBackSpec)) onetimeBackUptoCard
end Rows
end Go.Proofs.YtkgdjddcnlkppaaDoor
