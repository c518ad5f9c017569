/-
  DERIVED. GIVEN WITH THE SEED: THE CARDS: each row of YtgniilnljeedlaaGreatDoorRows.lean that lists a variable, with what it lists TIED to the program's text (the seventh form; the later family's looks); each row that meets fmt, with fmt's text TOLD by the authors' own Lean function (tested against real Go, not proved from fmt's source: count such statements apart). THE CARD IS WHAT COUNTS. Prove the row's statement (the work); the ties are given (YtgniilnljeedlaaGreatDoorTie.lean); close each card by the builder's one call (the guide's Derived/Test/ToyasCard.lean, 'card_holds'). Laid BY PROGRAM, IN A SANDBOX (cutbox-door.mjs). By AI agents, Wed Nov 11 2026. No macro, syntax, notation, axiom, sorry.
-/
import Derived.Test.YtgniilnljeedlaaGreatDoorRows
import GoSem.ClaimSeven
namespace Go.Proofs.YtgniilnljeedlaaGreatDoor
namespace Rows

/-- THE TIED CARD OF 'gladstonelaw05.VaultRuns'. -/
def vaultRunsCard : Claim7 := { stood := { row := vaultRunsRow, standIns := [], harness := (true, "d32cad7b5752cd6ac23a3449ca69d84f08b40200f08d5a4c3cfdbc50ae51ca56"), looks := true }, kinds := [], alts := [], goes := true, laidByText := true, laidKinds := [.handle], laidTests := true, laidLooks := .later }
def VaultRunsCardSaid : Prop := Claim7.holds Tryz.pinned (.plain (OpenSpec.ofChange vaultRunsSpec)) vaultRunsCard

/-- THE TIED CARD OF 'gladstonelaw05.VaultBests'. -/
def vaultBestsCard : Claim7 := { stood := { row := vaultBestsRow, standIns := [], harness := (true, "d32cad7b5752cd6ac23a3449ca69d84f08b40200f08d5a4c3cfdbc50ae51ca56"), looks := true }, kinds := [], alts := [], goes := true, laidByText := true, laidKinds := [.handle], laidTests := true, laidLooks := .later }
def VaultBestsCardSaid : Prop := Claim7.holds Tryz.pinned (.plain (OpenSpec.ofChange vaultBestsSpec)) vaultBestsCard

/-- THE TIED CARD OF 'gladstonelaw05.VaultSents'. -/
def vaultSentsCard : Claim7 := { stood := { row := vaultSentsRow, standIns := [], harness := (true, "d32cad7b5752cd6ac23a3449ca69d84f08b40200f08d5a4c3cfdbc50ae51ca56"), looks := true }, kinds := [], alts := [], goes := true, laidByText := true, laidKinds := [.handle], laidTests := true, laidLooks := .later }
def VaultSentsCardSaid : Prop := Claim7.holds Tryz.pinned (.plain (OpenSpec.ofChange vaultSentsSpec)) vaultSentsCard

/-- THE TIED CARD OF 'gladstonelaw05.VaultLate'. -/
def vaultLateCard : Claim7 := { stood := { row := vaultLateRow, standIns := [], harness := (true, "d32cad7b5752cd6ac23a3449ca69d84f08b40200f08d5a4c3cfdbc50ae51ca56"), looks := true }, kinds := [], alts := [], goes := true, laidByText := true, laidKinds := [.handle], laidTests := true, laidLooks := .later }
def VaultLateCardSaid : Prop := Claim7.holds Tryz.pinned (.plain (OpenSpec.ofChange vaultLateSpec)) vaultLateCard

/-- THE TIED CARD OF 'gladstonelaw05.VaultAll'. -/
def vaultAllCard : Claim7 := { stood := { row := vaultAllRow, standIns := [], harness := (true, "d32cad7b5752cd6ac23a3449ca69d84f08b40200f08d5a4c3cfdbc50ae51ca56"), looks := true }, kinds := [], alts := [], goes := true, laidByText := true, laidKinds := [.handle], laidTests := true, laidLooks := .later }
def VaultAllCardSaid : Prop := Claim7.holds Tryz.pinned (.plain (OpenSpec.ofChange vaultAllSpec)) vaultAllCard

/-- THE TIED CARD OF 'gladstonelaw05.VaultPhases'. -/
def vaultPhasesCard : Claim7 := { stood := { row := vaultPhasesRow, standIns := [], harness := (true, "d32cad7b5752cd6ac23a3449ca69d84f08b40200f08d5a4c3cfdbc50ae51ca56"), looks := true }, kinds := [], alts := [], goes := true, laidByText := true, laidKinds := [.handle], laidTests := true, laidLooks := .later }
def VaultPhasesCardSaid : Prop := Claim7.holds Tryz.pinned (.plain (OpenSpec.ofChange vaultPhasesSpec)) vaultPhasesCard

/-- THE TIED CARD OF 'gladstonelaw05.VaultNew'. -/
def vaultNewCard : Claim7 := { stood := { row := vaultNewRow, standIns := [], harness := (true, "d32cad7b5752cd6ac23a3449ca69d84f08b40200f08d5a4c3cfdbc50ae51ca56"), looks := true }, kinds := [], alts := [], goes := true, laidByText := true, laidKinds := [.handle], laidTests := true, laidLooks := .later }
def VaultNewCardSaid : Prop := Claim7.holds Tryz.pinned (.plain (OpenSpec.ofChange vaultNewSpec)) vaultNewCard

/-- THE TIED CARD OF 'gladstonelaw05.VaultPlaces'. -/
def vaultPlacesCard : Claim7 := { stood := { row := vaultPlacesRow, standIns := [], harness := (true, "d32cad7b5752cd6ac23a3449ca69d84f08b40200f08d5a4c3cfdbc50ae51ca56"), looks := true }, kinds := [], alts := [], goes := true, laidByText := true, laidKinds := [.handle], laidTests := true, laidLooks := .later }
def VaultPlacesCardSaid : Prop := Claim7.holds Tryz.pinned (.plain (OpenSpec.ofChange vaultPlacesSpec)) vaultPlacesCard

/-- THE TIED CARD OF 'gladstonelaw05.VaultMore'. -/
def vaultMoreCard : Claim7 := { stood := { row := vaultMoreRow, standIns := [], harness := (true, "d32cad7b5752cd6ac23a3449ca69d84f08b40200f08d5a4c3cfdbc50ae51ca56"), looks := true }, kinds := [], alts := [], goes := true, laidByText := true, laidKinds := [.handle], laidTests := true, laidLooks := .later }
def VaultMoreCardSaid : Prop := Claim7.holds Tryz.pinned (.plain (OpenSpec.ofChange vaultMoreSpec)) vaultMoreCard

/-- THE TIED CARD OF 'gladstonelaw05.VaultAsk'. -/
def vaultAskCard : Claim7 := { stood := { row := vaultAskRow, standIns := [], harness := (true, "d32cad7b5752cd6ac23a3449ca69d84f08b40200f08d5a4c3cfdbc50ae51ca56"), looks := true }, kinds := [], alts := [], goes := true, laidByText := true, laidKinds := [.handle], laidTests := true, laidLooks := .later }
def VaultAskCardSaid : Prop := Claim7.holds Tryz.pinned (.plain (OpenSpec.ofChange vaultAskSpec)) vaultAskCard

/-- THE TIED CARD OF 'gladstonelaw05.VaultNumbered'. -/
def vaultNumberedCard : Claim7 := { stood := { row := vaultNumberedRow, standIns := [], harness := (true, "d32cad7b5752cd6ac23a3449ca69d84f08b40200f08d5a4c3cfdbc50ae51ca56"), looks := true }, kinds := [], alts := [], goes := true, laidByText := true, laidKinds := [.handle], laidTests := true, laidLooks := .later }
def VaultNumberedCardSaid : Prop := Claim7.holds Tryz.pinned (.plain (OpenSpec.ofChange vaultNumberedSpec)) vaultNumberedCard

/-- THE TIED CARD OF 'gladstonelaw05.VaultChoice'. -/
def vaultChoiceCard : Claim7 := { stood := { row := vaultChoiceRow, standIns := [], harness := (true, "d32cad7b5752cd6ac23a3449ca69d84f08b40200f08d5a4c3cfdbc50ae51ca56"), looks := true }, kinds := [], alts := [], goes := true, laidByText := true, laidKinds := [.handle], laidTests := true, laidLooks := .later }
def VaultChoiceCardSaid : Prop := Claim7.holds Tryz.pinned (.plain (OpenSpec.ofChange vaultChoiceSpec)) vaultChoiceCard

/-- THE TIED CARD OF 'gladstonelaw05.VaultRegrets'. -/
def vaultRegretsCard : Claim7 := { stood := { row := vaultRegretsRow, standIns := [], harness := (true, "d32cad7b5752cd6ac23a3449ca69d84f08b40200f08d5a4c3cfdbc50ae51ca56"), looks := true }, kinds := [], alts := [], goes := true, laidByText := true, laidKinds := [.handle], laidTests := true, laidLooks := .later }
def VaultRegretsCardSaid : Prop := Claim7.holds Tryz.pinned (.plain (OpenSpec.ofChange vaultRegretsSpec)) vaultRegretsCard

/-- THE TIED CARD OF 'gladstonelaw05.VaultRegret'. -/
def vaultRegretCard : Claim7 := { stood := { row := vaultRegretRow, standIns := [], harness := (true, "d32cad7b5752cd6ac23a3449ca69d84f08b40200f08d5a4c3cfdbc50ae51ca56"), looks := true }, kinds := [], alts := [], goes := true, laidByText := true, laidKinds := [.handle], laidTests := true, laidLooks := .later }
def VaultRegretCardSaid : Prop := Claim7.holds Tryz.pinned (.plain (OpenSpec.ofChange vaultRegretSpec)) vaultRegretCard

/-- THE TIED CARD OF 'gladstonelaw05.VaultSurer'. -/
def vaultSurerCard : Claim7 := { stood := { row := vaultSurerRow, standIns := [], harness := (true, "d32cad7b5752cd6ac23a3449ca69d84f08b40200f08d5a4c3cfdbc50ae51ca56"), looks := true }, kinds := [], alts := [], goes := true, laidByText := true, laidKinds := [.handle], laidTests := true, laidLooks := .later }
def VaultSurerCardSaid : Prop := Claim7.holds Tryz.pinned (.plain (OpenSpec.ofChange vaultSurerSpec)) vaultSurerCard

/-- THE TIED CARD OF 'gladstonelaw05.VaultFetches'. -/
def vaultFetchesCard : Claim7 := { stood := { row := vaultFetchesRow, standIns := [], harness := (true, "d32cad7b5752cd6ac23a3449ca69d84f08b40200f08d5a4c3cfdbc50ae51ca56"), looks := true }, kinds := [], alts := [], goes := true, laidByText := true, laidKinds := [.handle], laidTests := true, laidLooks := .later }
def VaultFetchesCardSaid : Prop := Claim7.holds Tryz.pinned (.plain (OpenSpec.ofChange vaultFetchesSpec)) vaultFetchesCard

/-- THE TIED CARD OF 'gladstonelaw05.VaultTruths'. -/
def vaultTruthsCard : Claim7 := { stood := { row := vaultTruthsRow, standIns := [], harness := (true, "d32cad7b5752cd6ac23a3449ca69d84f08b40200f08d5a4c3cfdbc50ae51ca56"), looks := true }, kinds := [], alts := [], goes := true, laidByText := true, laidKinds := [.handle], laidTests := true, laidLooks := .later }
def VaultTruthsCardSaid : Prop := Claim7.holds Tryz.pinned (.plain (OpenSpec.ofChange vaultTruthsSpec)) vaultTruthsCard

/-- THE TIED CARD OF 'gladstonelaw05.VaultKnown'. -/
def vaultKnownCard : Claim7 := { stood := { row := vaultKnownRow, standIns := [], harness := (true, "d32cad7b5752cd6ac23a3449ca69d84f08b40200f08d5a4c3cfdbc50ae51ca56"), looks := true }, kinds := [], alts := [], goes := true, laidByText := true, laidKinds := [.handle], laidTests := true, laidLooks := .later }
def VaultKnownCardSaid : Prop := Claim7.holds Tryz.pinned (.plain (OpenSpec.ofChange vaultKnownSpec)) vaultKnownCard

/-- THE SECOND FORM's CARD OF 'gladstonelaw05.VaultRuns'. -/
def vaultRunsUptoCard : Claim7 := { stood := { row := vaultRunsUptoRow, standIns := [], harness := (true, "d32cad7b5752cd6ac23a3449ca69d84f08b40200f08d5a4c3cfdbc50ae51ca56"), looks := true }, kinds := [], alts := [], goes := true, laidByText := true, laidKinds := [.handle], laidTests := true, laidLooks := .later }
def VaultRunsUptoCardSaid : Prop := Claim7.holds Tryz.pinned (.plain (OpenSpec.upto vaultRunsSpec)) vaultRunsUptoCard

/-- THE SECOND FORM's CARD OF 'gladstonelaw05.VaultBests'. -/
def vaultBestsUptoCard : Claim7 := { stood := { row := vaultBestsUptoRow, standIns := [], harness := (true, "d32cad7b5752cd6ac23a3449ca69d84f08b40200f08d5a4c3cfdbc50ae51ca56"), looks := true }, kinds := [], alts := [], goes := true, laidByText := true, laidKinds := [.handle], laidTests := true, laidLooks := .later }
def VaultBestsUptoCardSaid : Prop := Claim7.holds Tryz.pinned (.plain (OpenSpec.upto vaultBestsSpec)) vaultBestsUptoCard

/-- THE SECOND FORM's CARD OF 'gladstonelaw05.VaultSents'. -/
def vaultSentsUptoCard : Claim7 := { stood := { row := vaultSentsUptoRow, standIns := [], harness := (true, "d32cad7b5752cd6ac23a3449ca69d84f08b40200f08d5a4c3cfdbc50ae51ca56"), looks := true }, kinds := [], alts := [], goes := true, laidByText := true, laidKinds := [.handle], laidTests := true, laidLooks := .later }
def VaultSentsUptoCardSaid : Prop := Claim7.holds Tryz.pinned (.plain (OpenSpec.upto vaultSentsSpec)) vaultSentsUptoCard

/-- THE SECOND FORM's CARD OF 'gladstonelaw05.VaultLate'. -/
def vaultLateUptoCard : Claim7 := { stood := { row := vaultLateUptoRow, standIns := [], harness := (true, "d32cad7b5752cd6ac23a3449ca69d84f08b40200f08d5a4c3cfdbc50ae51ca56"), looks := true }, kinds := [], alts := [], goes := true, laidByText := true, laidKinds := [.handle], laidTests := true, laidLooks := .later }
def VaultLateUptoCardSaid : Prop := Claim7.holds Tryz.pinned (.plain (OpenSpec.upto vaultLateSpec)) vaultLateUptoCard

/-- THE SECOND FORM's CARD OF 'gladstonelaw05.VaultAll'. -/
def vaultAllUptoCard : Claim7 := { stood := { row := vaultAllUptoRow, standIns := [], harness := (true, "d32cad7b5752cd6ac23a3449ca69d84f08b40200f08d5a4c3cfdbc50ae51ca56"), looks := true }, kinds := [], alts := [], goes := true, laidByText := true, laidKinds := [.handle], laidTests := true, laidLooks := .later }
def VaultAllUptoCardSaid : Prop := Claim7.holds Tryz.pinned (.plain (OpenSpec.upto vaultAllSpec)) vaultAllUptoCard

/-- THE SECOND FORM's CARD OF 'gladstonelaw05.VaultPhases'. -/
def vaultPhasesUptoCard : Claim7 := { stood := { row := vaultPhasesUptoRow, standIns := [], harness := (true, "d32cad7b5752cd6ac23a3449ca69d84f08b40200f08d5a4c3cfdbc50ae51ca56"), looks := true }, kinds := [], alts := [], goes := true, laidByText := true, laidKinds := [.handle], laidTests := true, laidLooks := .later }
def VaultPhasesUptoCardSaid : Prop := Claim7.holds Tryz.pinned (.plain (OpenSpec.upto vaultPhasesSpec)) vaultPhasesUptoCard

/-- THE SECOND FORM's CARD OF 'gladstonelaw05.VaultNew'. -/
def vaultNewUptoCard : Claim7 := { stood := { row := vaultNewUptoRow, standIns := [], harness := (true, "d32cad7b5752cd6ac23a3449ca69d84f08b40200f08d5a4c3cfdbc50ae51ca56"), looks := true }, kinds := [], alts := [], goes := true, laidByText := true, laidKinds := [.handle], laidTests := true, laidLooks := .later }
def VaultNewUptoCardSaid : Prop := Claim7.holds Tryz.pinned (.plain (OpenSpec.upto vaultNewSpec)) vaultNewUptoCard

/-- THE SECOND FORM's CARD OF 'gladstonelaw05.VaultPlaces'. -/
def vaultPlacesUptoCard : Claim7 := { stood := { row := vaultPlacesUptoRow, standIns := [], harness := (true, "d32cad7b5752cd6ac23a3449ca69d84f08b40200f08d5a4c3cfdbc50ae51ca56"), looks := true }, kinds := [], alts := [], goes := true, laidByText := true, laidKinds := [.handle], laidTests := true, laidLooks := .later }
def VaultPlacesUptoCardSaid : Prop := Claim7.holds Tryz.pinned (.plain (OpenSpec.upto vaultPlacesSpec)) vaultPlacesUptoCard

/-- THE SECOND FORM's CARD OF 'gladstonelaw05.VaultMore'. -/
def vaultMoreUptoCard : Claim7 := { stood := { row := vaultMoreUptoRow, standIns := [], harness := (true, "d32cad7b5752cd6ac23a3449ca69d84f08b40200f08d5a4c3cfdbc50ae51ca56"), looks := true }, kinds := [], alts := [], goes := true, laidByText := true, laidKinds := [.handle], laidTests := true, laidLooks := .later }
def VaultMoreUptoCardSaid : Prop := Claim7.holds Tryz.pinned (.plain (OpenSpec.upto vaultMoreSpec)) vaultMoreUptoCard

/-- THE SECOND FORM's CARD OF 'gladstonelaw05.VaultAsk'. -/
def vaultAskUptoCard : Claim7 := { stood := { row := vaultAskUptoRow, standIns := [], harness := (true, "d32cad7b5752cd6ac23a3449ca69d84f08b40200f08d5a4c3cfdbc50ae51ca56"), looks := true }, kinds := [], alts := [], goes := true, laidByText := true, laidKinds := [.handle], laidTests := true, laidLooks := .later }
def VaultAskUptoCardSaid : Prop := Claim7.holds Tryz.pinned (.plain (OpenSpec.upto vaultAskSpec)) vaultAskUptoCard

/-- THE SECOND FORM's CARD OF 'gladstonelaw05.VaultNumbered'. -/
def vaultNumberedUptoCard : Claim7 := { stood := { row := vaultNumberedUptoRow, standIns := [], harness := (true, "d32cad7b5752cd6ac23a3449ca69d84f08b40200f08d5a4c3cfdbc50ae51ca56"), looks := true }, kinds := [], alts := [], goes := true, laidByText := true, laidKinds := [.handle], laidTests := true, laidLooks := .later }
def VaultNumberedUptoCardSaid : Prop := Claim7.holds Tryz.pinned (.plain (OpenSpec.upto vaultNumberedSpec)) vaultNumberedUptoCard

/-- THE SECOND FORM's CARD OF 'gladstonelaw05.VaultChoice'. -/
def vaultChoiceUptoCard : Claim7 := { stood := { row := vaultChoiceUptoRow, standIns := [], harness := (true, "d32cad7b5752cd6ac23a3449ca69d84f08b40200f08d5a4c3cfdbc50ae51ca56"), looks := true }, kinds := [], alts := [], goes := true, laidByText := true, laidKinds := [.handle], laidTests := true, laidLooks := .later }
def VaultChoiceUptoCardSaid : Prop := Claim7.holds Tryz.pinned (.plain (OpenSpec.upto vaultChoiceSpec)) vaultChoiceUptoCard

/-- THE SECOND FORM's CARD OF 'gladstonelaw05.VaultRegrets'. -/
def vaultRegretsUptoCard : Claim7 := { stood := { row := vaultRegretsUptoRow, standIns := [], harness := (true, "d32cad7b5752cd6ac23a3449ca69d84f08b40200f08d5a4c3cfdbc50ae51ca56"), looks := true }, kinds := [], alts := [], goes := true, laidByText := true, laidKinds := [.handle], laidTests := true, laidLooks := .later }
def VaultRegretsUptoCardSaid : Prop := Claim7.holds Tryz.pinned (.plain (OpenSpec.upto vaultRegretsSpec)) vaultRegretsUptoCard

/-- THE SECOND FORM's CARD OF 'gladstonelaw05.VaultRegret'. -/
def vaultRegretUptoCard : Claim7 := { stood := { row := vaultRegretUptoRow, standIns := [], harness := (true, "d32cad7b5752cd6ac23a3449ca69d84f08b40200f08d5a4c3cfdbc50ae51ca56"), looks := true }, kinds := [], alts := [], goes := true, laidByText := true, laidKinds := [.handle], laidTests := true, laidLooks := .later }
def VaultRegretUptoCardSaid : Prop := Claim7.holds Tryz.pinned (.plain (OpenSpec.upto vaultRegretSpec)) vaultRegretUptoCard

/-- THE SECOND FORM's CARD OF 'gladstonelaw05.VaultSurer'. -/
def vaultSurerUptoCard : Claim7 := { stood := { row := vaultSurerUptoRow, standIns := [], harness := (true, "d32cad7b5752cd6ac23a3449ca69d84f08b40200f08d5a4c3cfdbc50ae51ca56"), looks := true }, kinds := [], alts := [], goes := true, laidByText := true, laidKinds := [.handle], laidTests := true, laidLooks := .later }
def VaultSurerUptoCardSaid : Prop := Claim7.holds Tryz.pinned (.plain (OpenSpec.upto vaultSurerSpec)) vaultSurerUptoCard

/-- THE SECOND FORM's CARD OF 'gladstonelaw05.VaultFetches'. -/
def vaultFetchesUptoCard : Claim7 := { stood := { row := vaultFetchesUptoRow, standIns := [], harness := (true, "d32cad7b5752cd6ac23a3449ca69d84f08b40200f08d5a4c3cfdbc50ae51ca56"), looks := true }, kinds := [], alts := [], goes := true, laidByText := true, laidKinds := [.handle], laidTests := true, laidLooks := .later }
def VaultFetchesUptoCardSaid : Prop := Claim7.holds Tryz.pinned (.plain (OpenSpec.upto vaultFetchesSpec)) vaultFetchesUptoCard

/-- THE SECOND FORM's CARD OF 'gladstonelaw05.VaultTruths'. -/
def vaultTruthsUptoCard : Claim7 := { stood := { row := vaultTruthsUptoRow, standIns := [], harness := (true, "d32cad7b5752cd6ac23a3449ca69d84f08b40200f08d5a4c3cfdbc50ae51ca56"), looks := true }, kinds := [], alts := [], goes := true, laidByText := true, laidKinds := [.handle], laidTests := true, laidLooks := .later }
def VaultTruthsUptoCardSaid : Prop := Claim7.holds Tryz.pinned (.plain (OpenSpec.upto vaultTruthsSpec)) vaultTruthsUptoCard

/-- THE SECOND FORM's CARD OF 'gladstonelaw05.VaultKnown'. -/
def vaultKnownUptoCard : Claim7 := { stood := { row := vaultKnownUptoRow, standIns := [], harness := (true, "d32cad7b5752cd6ac23a3449ca69d84f08b40200f08d5a4c3cfdbc50ae51ca56"), looks := true }, kinds := [], alts := [], goes := true, laidByText := true, laidKinds := [.handle], laidTests := true, laidLooks := .later }
def VaultKnownUptoCardSaid : Prop := Claim7.holds Tryz.pinned (.plain (OpenSpec.upto vaultKnownSpec)) vaultKnownUptoCard
end Rows
end Go.Proofs.YtgniilnljeedlaaGreatDoor
