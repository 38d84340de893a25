/-
  DERIVED. GIVEN WITH THE SEED: THE CARDS: each row of YtpbeaaihdmfnlaaDoorRows.lean that lists a variable, with what it lists TIED to the program's text (the seventh form; the later family's looks); each row that meets fmt, with fmt's text TOLD by the authors' own Lean function (tested against real Go, not proved from fmt's source: count such statements apart). THE CARD IS WHAT COUNTS. Prove the row's statement (the work); the ties are given (YtpbeaaihdmfnlaaDoorTie.lean); close each card by the builder's one call (the guide's Derived/Test/ToyasCard.lean, 'card_holds'). Laid BY PROGRAM, IN A SANDBOX (cutbox-door.mjs). By AI agents, Wed Nov 11 2026. No macro, syntax, notation, axiom, sorry.
-/
import Derived.Test.YtpbeaaihdmfnlaaDoorRows
import GoSem.ClaimSeven
namespace Go.Proofs.YtpbeaaihdmfnlaaDoor
namespace Rows

/-- THE TIED CARD OF 'numnahlaw06.WettingLeasts'. -/
def wettingLeastsCard : Claim7 := { stood := { row := wettingLeastsRow, standIns := [], harness := (true, "f1afd65165054fcbbf4691e68be9582370029186978d0ab7fe806af66b4a0694"), looks := false }, kinds := [], alts := [], laidByText := true, laidKinds := [.data, .data], laidTests := true, laidLooks := .later }
def WettingLeastsCardSaid : Prop := Claim7.holds Tryd.pinned (.plain (OpenSpec.ofChange wettingLeastsSpec)) wettingLeastsCard

/-- THE TIED CARD OF 'numnahlaw06.WettingHits'. -/
def wettingHitsCard : Claim7 := { stood := { row := wettingHitsRow, standIns := [], harness := (true, "f1afd65165054fcbbf4691e68be9582370029186978d0ab7fe806af66b4a0694"), looks := false }, kinds := [], alts := [], laidByText := true, laidKinds := [.data, .data], laidTests := true, laidLooks := .later }
def WettingHitsCardSaid : Prop := Claim7.holds Tryd.pinned (.plain (OpenSpec.ofChange wettingHitsSpec)) wettingHitsCard

/-- THE TIED CARD OF 'numnahlaw06.WettingRenamed'. -/
def wettingRenamedCard : Claim7 := { stood := { row := wettingRenamedRow, standIns := [], harness := (true, "f1afd65165054fcbbf4691e68be9582370029186978d0ab7fe806af66b4a0694"), looks := false }, kinds := [], alts := [], laidByText := true, laidKinds := [.data, .data], laidTests := true, laidLooks := .later }
def WettingRenamedCardSaid : Prop := Claim7.holds Tryd.pinned (.plain (OpenSpec.ofChange wettingRenamedSpec)) wettingRenamedCard

/-- THE TIED CARD OF 'numnahlaw06.WettingOwn'. -/
def wettingOwnCard : Claim7 := { stood := { row := wettingOwnRow, standIns := [], harness := (true, "f1afd65165054fcbbf4691e68be9582370029186978d0ab7fe806af66b4a0694"), looks := false }, kinds := [], alts := [], laidByText := true, laidKinds := [.data, .data], laidTests := true, laidLooks := .later }
def WettingOwnCardSaid : Prop := Claim7.holds Tryd.pinned (.plain (OpenSpec.ofChange wettingOwnSpec)) wettingOwnCard

/-- THE TIED CARD OF 'numnahlaw06.WettingChecks'. -/
def wettingChecksCard : Claim7 := { stood := { row := wettingChecksRow, standIns := [], harness := (true, "f1afd65165054fcbbf4691e68be9582370029186978d0ab7fe806af66b4a0694"), looks := false }, kinds := [], alts := [], laidByText := true, laidKinds := [.data, .data], laidTests := true, laidLooks := .later }
def WettingChecksCardSaid : Prop := Claim7.holds Tryd.pinned (.plain (OpenSpec.ofChange wettingChecksSpec)) wettingChecksCard

/-- THE TIED CARD OF 'numnahlaw06.WettingOrders'. -/
def wettingOrdersCard : Claim7 := { stood := { row := wettingOrdersRow, standIns := [], harness := (true, "f1afd65165054fcbbf4691e68be9582370029186978d0ab7fe806af66b4a0694"), looks := false }, kinds := [], alts := [], laidByText := true, laidKinds := [.data, .data], laidTests := true, laidLooks := .later }
def WettingOrdersCardSaid : Prop := Claim7.holds Tryd.pinned (.plain (OpenSpec.ofChange wettingOrdersSpec)) wettingOrdersCard

/-- THE TIED CARD OF 'numnahlaw06.WettingFewests'. -/
def wettingFewestsCard : Claim7 := { stood := { row := wettingFewestsRow, standIns := [], harness := (true, "f1afd65165054fcbbf4691e68be9582370029186978d0ab7fe806af66b4a0694"), looks := false }, kinds := [], alts := [], laidByText := true, laidKinds := [.data, .data], laidTests := true, laidLooks := .later }
def WettingFewestsCardSaid : Prop := Claim7.holds Tryd.pinned (.plain (OpenSpec.ofChange wettingFewestsSpec)) wettingFewestsCard

/-- THE TIED CARD OF 'numnahlaw06.WettingUnions'. -/
def wettingUnionsCard : Claim7 := { stood := { row := wettingUnionsRow, standIns := [], harness := (true, "f1afd65165054fcbbf4691e68be9582370029186978d0ab7fe806af66b4a0694"), looks := false }, kinds := [], alts := [], laidByText := true, laidKinds := [.data, .data], laidTests := true, laidLooks := .later }
def WettingUnionsCardSaid : Prop := Claim7.holds Tryd.pinned (.plain (OpenSpec.ofChange wettingUnionsSpec)) wettingUnionsCard

/-- THE TIED CARD OF 'numnahlaw06.WettingCloses'. -/
def wettingClosesCard : Claim7 := { stood := { row := wettingClosesRow, standIns := [], harness := (true, "f1afd65165054fcbbf4691e68be9582370029186978d0ab7fe806af66b4a0694"), looks := false }, kinds := [], alts := [], laidByText := true, laidKinds := [.data, .data], laidTests := true, laidLooks := .later }
def WettingClosesCardSaid : Prop := Claim7.holds Tryd.pinned (.plain (OpenSpec.ofChange wettingClosesSpec)) wettingClosesCard

/-- THE TIED CARD OF 'numnahlaw06.WettingSoaks'. -/
def wettingSoaksCard : Claim7 := { stood := { row := wettingSoaksRow, standIns := [], harness := (true, "f1afd65165054fcbbf4691e68be9582370029186978d0ab7fe806af66b4a0694"), looks := false }, kinds := [], alts := [], laidByText := true, laidKinds := [.data, .data], laidTests := true, laidLooks := .later }
def WettingSoaksCardSaid : Prop := Claim7.holds Tryd.pinned (.plain (OpenSpec.ofChange wettingSoaksSpec)) wettingSoaksCard

/-- THE TIED CARD OF 'numnahlaw06.WettingGrows'. -/
def wettingGrowsCard : Claim7 := { stood := { row := wettingGrowsRow, standIns := [], harness := (true, "f1afd65165054fcbbf4691e68be9582370029186978d0ab7fe806af66b4a0694"), looks := false }, kinds := [], alts := [], laidByText := true, laidKinds := [.data, .data], laidTests := true, laidLooks := .later }
def WettingGrowsCardSaid : Prop := Claim7.holds Tryd.pinned (.plain (OpenSpec.ofChange wettingGrowsSpec)) wettingGrowsCard

/-- THE TIED CARD OF 'numnahlaw06.WettingThresholds'. -/
def wettingThresholdsCard : Claim7 := { stood := { row := wettingThresholdsRow, standIns := [], harness := (true, "f1afd65165054fcbbf4691e68be9582370029186978d0ab7fe806af66b4a0694"), looks := false }, kinds := [], alts := [], laidByText := true, laidKinds := [.data, .data], laidTests := true, laidLooks := .later }
def WettingThresholdsCardSaid : Prop := Claim7.holds Tryd.pinned (.plain (OpenSpec.ofChange wettingThresholdsSpec)) wettingThresholdsCard

/-- THE TIED CARD OF 'numnahlaw06.WettingChained'. -/
def wettingChainedCard : Claim7 := { stood := { row := wettingChainedRow, standIns := [], harness := (true, "f1afd65165054fcbbf4691e68be9582370029186978d0ab7fe806af66b4a0694"), looks := false }, kinds := [], alts := [], laidByText := true, laidKinds := [.data, .data], laidTests := true, laidLooks := .later }
def WettingChainedCardSaid : Prop := Claim7.holds Tryd.pinned (.plain (OpenSpec.ofChange wettingChainedSpec)) wettingChainedCard

/-- THE TIED CARD OF 'numnahlaw06.WettingChronicles'. -/
def wettingChroniclesCard : Claim7 := { stood := { row := wettingChroniclesRow, standIns := [], harness := (true, "f1afd65165054fcbbf4691e68be9582370029186978d0ab7fe806af66b4a0694"), looks := false }, kinds := [], alts := [], laidByText := true, laidKinds := [.data, .data], laidTests := true, laidLooks := .later }
def WettingChroniclesCardSaid : Prop := Claim7.holds Tryd.pinned (.plain (OpenSpec.ofChange wettingChroniclesSpec)) wettingChroniclesCard

/-- THE SECOND FORM's CARD OF 'numnahlaw06.WettingLeasts'. -/
def wettingLeastsUptoCard : Claim7 := { stood := { row := wettingLeastsUptoRow, standIns := [], harness := (true, "f1afd65165054fcbbf4691e68be9582370029186978d0ab7fe806af66b4a0694"), looks := false }, kinds := [], alts := [], laidByText := true, laidKinds := [.data, .data], laidTests := true, laidLooks := .later }
def WettingLeastsUptoCardSaid : Prop := Claim7.holds Tryd.pinned (.plain (OpenSpec.upto wettingLeastsSpec)) wettingLeastsUptoCard

/-- THE SECOND FORM's CARD OF 'numnahlaw06.WettingHits'. -/
def wettingHitsUptoCard : Claim7 := { stood := { row := wettingHitsUptoRow, standIns := [], harness := (true, "f1afd65165054fcbbf4691e68be9582370029186978d0ab7fe806af66b4a0694"), looks := false }, kinds := [], alts := [], laidByText := true, laidKinds := [.data, .data], laidTests := true, laidLooks := .later }
def WettingHitsUptoCardSaid : Prop := Claim7.holds Tryd.pinned (.plain (OpenSpec.upto wettingHitsSpec)) wettingHitsUptoCard

/-- THE SECOND FORM's CARD OF 'numnahlaw06.WettingRenamed'. -/
def wettingRenamedUptoCard : Claim7 := { stood := { row := wettingRenamedUptoRow, standIns := [], harness := (true, "f1afd65165054fcbbf4691e68be9582370029186978d0ab7fe806af66b4a0694"), looks := false }, kinds := [], alts := [], laidByText := true, laidKinds := [.data, .data], laidTests := true, laidLooks := .later }
def WettingRenamedUptoCardSaid : Prop := Claim7.holds Tryd.pinned (.plain (OpenSpec.upto wettingRenamedSpec)) wettingRenamedUptoCard

/-- THE SECOND FORM's CARD OF 'numnahlaw06.WettingOwn'. -/
def wettingOwnUptoCard : Claim7 := { stood := { row := wettingOwnUptoRow, standIns := [], harness := (true, "f1afd65165054fcbbf4691e68be9582370029186978d0ab7fe806af66b4a0694"), looks := false }, kinds := [], alts := [], laidByText := true, laidKinds := [.data, .data], laidTests := true, laidLooks := .later }
def WettingOwnUptoCardSaid : Prop := Claim7.holds Tryd.pinned (.plain (OpenSpec.upto wettingOwnSpec)) wettingOwnUptoCard

/-- THE SECOND FORM's CARD OF 'numnahlaw06.WettingChecks'. -/
def wettingChecksUptoCard : Claim7 := { stood := { row := wettingChecksUptoRow, standIns := [], harness := (true, "f1afd65165054fcbbf4691e68be9582370029186978d0ab7fe806af66b4a0694"), looks := false }, kinds := [], alts := [], laidByText := true, laidKinds := [.data, .data], laidTests := true, laidLooks := .later }
def WettingChecksUptoCardSaid : Prop := Claim7.holds Tryd.pinned (.plain (OpenSpec.upto wettingChecksSpec)) wettingChecksUptoCard

/-- THE SECOND FORM's CARD OF 'numnahlaw06.WettingOrders'. -/
def wettingOrdersUptoCard : Claim7 := { stood := { row := wettingOrdersUptoRow, standIns := [], harness := (true, "f1afd65165054fcbbf4691e68be9582370029186978d0ab7fe806af66b4a0694"), looks := false }, kinds := [], alts := [], laidByText := true, laidKinds := [.data, .data], laidTests := true, laidLooks := .later }
def WettingOrdersUptoCardSaid : Prop := Claim7.holds Tryd.pinned (.plain (OpenSpec.upto wettingOrdersSpec)) wettingOrdersUptoCard

/-- THE SECOND FORM's CARD OF 'numnahlaw06.WettingFewests'. -/
def wettingFewestsUptoCard : Claim7 := { stood := { row := wettingFewestsUptoRow, standIns := [], harness := (true, "f1afd65165054fcbbf4691e68be9582370029186978d0ab7fe806af66b4a0694"), looks := false }, kinds := [], alts := [], laidByText := true, laidKinds := [.data, .data], laidTests := true, laidLooks := .later }
def WettingFewestsUptoCardSaid : Prop := Claim7.holds Tryd.pinned (.plain (OpenSpec.upto wettingFewestsSpec)) wettingFewestsUptoCard

/-- THE SECOND FORM's CARD OF 'numnahlaw06.WettingUnions'. -/
def wettingUnionsUptoCard : Claim7 := { stood := { row := wettingUnionsUptoRow, standIns := [], harness := (true, "f1afd65165054fcbbf4691e68be9582370029186978d0ab7fe806af66b4a0694"), looks := false }, kinds := [], alts := [], laidByText := true, laidKinds := [.data, .data], laidTests := true, laidLooks := .later }
def WettingUnionsUptoCardSaid : Prop := Claim7.holds Tryd.pinned (.plain (OpenSpec.upto wettingUnionsSpec)) wettingUnionsUptoCard

/-- THE SECOND FORM's CARD OF 'numnahlaw06.WettingCloses'. -/
def wettingClosesUptoCard : Claim7 := { stood := { row := wettingClosesUptoRow, standIns := [], harness := (true, "f1afd65165054fcbbf4691e68be9582370029186978d0ab7fe806af66b4a0694"), looks := false }, kinds := [], alts := [], laidByText := true, laidKinds := [.data, .data], laidTests := true, laidLooks := .later }
def WettingClosesUptoCardSaid : Prop := Claim7.holds Tryd.pinned (.plain (OpenSpec.upto wettingClosesSpec)) wettingClosesUptoCard

/-- THE SECOND FORM's CARD OF 'numnahlaw06.WettingSoaks'. -/
def wettingSoaksUptoCard : Claim7 := { stood := { row := wettingSoaksUptoRow, standIns := [], harness := (true, "f1afd65165054fcbbf4691e68be9582370029186978d0ab7fe806af66b4a0694"), looks := false }, kinds := [], alts := [], laidByText := true, laidKinds := [.data, .data], laidTests := true, laidLooks := .later }
def WettingSoaksUptoCardSaid : Prop := Claim7.holds Tryd.pinned (.plain (OpenSpec.upto wettingSoaksSpec)) wettingSoaksUptoCard

/-- THE SECOND FORM's CARD OF 'numnahlaw06.WettingGrows'. -/
def wettingGrowsUptoCard : Claim7 := { stood := { row := wettingGrowsUptoRow, standIns := [], harness := (true, "f1afd65165054fcbbf4691e68be9582370029186978d0ab7fe806af66b4a0694"), looks := false }, kinds := [], alts := [], laidByText := true, laidKinds := [.data, .data], laidTests := true, laidLooks := .later }
def WettingGrowsUptoCardSaid : Prop := Claim7.holds Tryd.pinned (.plain (OpenSpec.upto wettingGrowsSpec)) wettingGrowsUptoCard

/-- THE SECOND FORM's CARD OF 'numnahlaw06.WettingThresholds'. -/
def wettingThresholdsUptoCard : Claim7 := { stood := { row := wettingThresholdsUptoRow, standIns := [], harness := (true, "f1afd65165054fcbbf4691e68be9582370029186978d0ab7fe806af66b4a0694"), looks := false }, kinds := [], alts := [], laidByText := true, laidKinds := [.data, .data], laidTests := true, laidLooks := .later }
def WettingThresholdsUptoCardSaid : Prop := Claim7.holds Tryd.pinned (.plain (OpenSpec.upto wettingThresholdsSpec)) wettingThresholdsUptoCard

/-- THE SECOND FORM's CARD OF 'numnahlaw06.WettingChained'. -/
def wettingChainedUptoCard : Claim7 := { stood := { row := wettingChainedUptoRow, standIns := [], harness := (true, "f1afd65165054fcbbf4691e68be9582370029186978d0ab7fe806af66b4a0694"), looks := false }, kinds := [], alts := [], laidByText := true, laidKinds := [.data, .data], laidTests := true, laidLooks := .later }
def WettingChainedUptoCardSaid : Prop := Claim7.holds Tryd.pinned (.plain (OpenSpec.upto wettingChainedSpec)) wettingChainedUptoCard

/-- THE SECOND FORM's CARD OF 'numnahlaw06.WettingChronicles'. -/
def wettingChroniclesUptoCard : Claim7 := { stood := { row := wettingChroniclesUptoRow, standIns := [], harness := (true, "f1afd65165054fcbbf4691e68be9582370029186978d0ab7fe806af66b4a0694"), looks := false }, kinds := [], alts := [], laidByText := true, laidKinds := [.data, .data], laidTests := true, laidLooks := .later }
def WettingChroniclesUptoCardSaid : Prop := Claim7.holds Tryd.pinned (.plain (OpenSpec.upto wettingChroniclesSpec)) wettingChroniclesUptoCard
end Rows
end Go.Proofs.YtpbeaaihdmfnlaaDoor
