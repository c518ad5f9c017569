/-
  DERIVED. GIVEN WITH THE SEED: THE CARDS: each row of YtkenloilljeliaaGreatDoorRows.lean that lists a variable, with what it lists TIED to the program's text (the seventh form; the later family's looks); each row that meets fmt, with fmt's text TOLD by the authors' own Lean function (tested against real Go, not proved from fmt's source: count such statements apart). THE CARD IS WHAT COUNTS. Prove the row's statement (the work); the ties are given (YtkenloilljeliaaGreatDoorTie.lean); close each card by the builder's one call (the guide's Derived/Test/ToyasCard.lean, 'card_holds'). Laid BY PROGRAM, IN A SANDBOX (cutbox-door.mjs). By AI agents, Wed Nov 11 2026. No macro, syntax, notation, axiom, sorry.
-/
import Derived.Test.YtkenloilljeliaaGreatDoorRows
import GoSem.ClaimSeven
namespace Go.Proofs.YtkenloilljeliaaGreatDoor
namespace Rows

/-- THE TIED CARD OF 'gladstonelaw09.SmellWrong'. -/
def smellWrongCard : Claim7 := { stood := { row := smellWrongRow, standIns := [], harness := (true, "ea0ece1640afb468f9ee9798b58dba132f857a1c6dec74cce639003bdd8b0c32"), looks := true }, kinds := [], alts := [], goes := true, laidByText := true, laidKinds := [.handle], laidTests := true, laidLooks := .later }
def SmellWrongCardSaid : Prop := Claim7.holds Tryz.pinned (.plain (OpenSpec.ofChange smellWrongSpec)) smellWrongCard

/-- THE TIED CARD OF 'gladstonelaw09.SmellSafe'. -/
def smellSafeCard : Claim7 := { stood := { row := smellSafeRow, standIns := [], harness := (true, "ea0ece1640afb468f9ee9798b58dba132f857a1c6dec74cce639003bdd8b0c32"), looks := true }, kinds := [], alts := [], goes := true, laidByText := true, laidKinds := [.handle], laidTests := true, laidLooks := .later }
def SmellSafeCardSaid : Prop := Claim7.holds Tryz.pinned (.plain (OpenSpec.ofChange smellSafeSpec)) smellSafeCard

/-- THE TIED CARD OF 'gladstonelaw09.SmellLater'. -/
def smellLaterCard : Claim7 := { stood := { row := smellLaterRow, standIns := [], harness := (true, "ea0ece1640afb468f9ee9798b58dba132f857a1c6dec74cce639003bdd8b0c32"), looks := true }, kinds := [], alts := [], goes := true, laidByText := true, laidKinds := [.handle], laidTests := true, laidLooks := .later }
def SmellLaterCardSaid : Prop := Claim7.holds Tryz.pinned (.plain (OpenSpec.ofChange smellLaterSpec)) smellLaterCard

/-- THE TIED CARD OF 'gladstonelaw09.SmellMixed'. -/
def smellMixedCard : Claim7 := { stood := { row := smellMixedRow, standIns := [], harness := (true, "ea0ece1640afb468f9ee9798b58dba132f857a1c6dec74cce639003bdd8b0c32"), looks := true }, kinds := [], alts := [], goes := true, laidByText := true, laidKinds := [.handle], laidTests := true, laidLooks := .later }
def SmellMixedCardSaid : Prop := Claim7.holds Tryz.pinned (.plain (OpenSpec.ofChange smellMixedSpec)) smellMixedCard

/-- THE TIED CARD OF 'gladstonelaw09.SmellAll'. -/
def smellAllCard : Claim7 := { stood := { row := smellAllRow, standIns := [], harness := (true, "ea0ece1640afb468f9ee9798b58dba132f857a1c6dec74cce639003bdd8b0c32"), looks := true }, kinds := [], alts := [], goes := true, laidByText := true, laidKinds := [.handle], laidTests := true, laidLooks := .later }
def SmellAllCardSaid : Prop := Claim7.holds Tryz.pinned (.plain (OpenSpec.ofChange smellAllSpec)) smellAllCard

/-- THE TIED CARD OF 'gladstonelaw09.SmellKnown'. -/
def smellKnownCard : Claim7 := { stood := { row := smellKnownRow, standIns := [], harness := (true, "ea0ece1640afb468f9ee9798b58dba132f857a1c6dec74cce639003bdd8b0c32"), looks := true }, kinds := [], alts := [], goes := true, laidByText := true, laidKinds := [.handle], laidTests := true, laidLooks := .later }
def SmellKnownCardSaid : Prop := Claim7.holds Tryz.pinned (.plain (OpenSpec.ofChange smellKnownSpec)) smellKnownCard

/-- THE SECOND FORM's CARD OF 'gladstonelaw09.SmellWrong'. -/
def smellWrongUptoCard : Claim7 := { stood := { row := smellWrongUptoRow, standIns := [], harness := (true, "ea0ece1640afb468f9ee9798b58dba132f857a1c6dec74cce639003bdd8b0c32"), looks := true }, kinds := [], alts := [], goes := true, laidByText := true, laidKinds := [.handle], laidTests := true, laidLooks := .later }
def SmellWrongUptoCardSaid : Prop := Claim7.holds Tryz.pinned (.plain (OpenSpec.upto smellWrongSpec)) smellWrongUptoCard

/-- THE SECOND FORM's CARD OF 'gladstonelaw09.SmellSafe'. -/
def smellSafeUptoCard : Claim7 := { stood := { row := smellSafeUptoRow, standIns := [], harness := (true, "ea0ece1640afb468f9ee9798b58dba132f857a1c6dec74cce639003bdd8b0c32"), looks := true }, kinds := [], alts := [], goes := true, laidByText := true, laidKinds := [.handle], laidTests := true, laidLooks := .later }
def SmellSafeUptoCardSaid : Prop := Claim7.holds Tryz.pinned (.plain (OpenSpec.upto smellSafeSpec)) smellSafeUptoCard

/-- THE SECOND FORM's CARD OF 'gladstonelaw09.SmellLater'. -/
def smellLaterUptoCard : Claim7 := { stood := { row := smellLaterUptoRow, standIns := [], harness := (true, "ea0ece1640afb468f9ee9798b58dba132f857a1c6dec74cce639003bdd8b0c32"), looks := true }, kinds := [], alts := [], goes := true, laidByText := true, laidKinds := [.handle], laidTests := true, laidLooks := .later }
def SmellLaterUptoCardSaid : Prop := Claim7.holds Tryz.pinned (.plain (OpenSpec.upto smellLaterSpec)) smellLaterUptoCard

/-- THE SECOND FORM's CARD OF 'gladstonelaw09.SmellMixed'. -/
def smellMixedUptoCard : Claim7 := { stood := { row := smellMixedUptoRow, standIns := [], harness := (true, "ea0ece1640afb468f9ee9798b58dba132f857a1c6dec74cce639003bdd8b0c32"), looks := true }, kinds := [], alts := [], goes := true, laidByText := true, laidKinds := [.handle], laidTests := true, laidLooks := .later }
def SmellMixedUptoCardSaid : Prop := Claim7.holds Tryz.pinned (.plain (OpenSpec.upto smellMixedSpec)) smellMixedUptoCard

/-- THE SECOND FORM's CARD OF 'gladstonelaw09.SmellAll'. -/
def smellAllUptoCard : Claim7 := { stood := { row := smellAllUptoRow, standIns := [], harness := (true, "ea0ece1640afb468f9ee9798b58dba132f857a1c6dec74cce639003bdd8b0c32"), looks := true }, kinds := [], alts := [], goes := true, laidByText := true, laidKinds := [.handle], laidTests := true, laidLooks := .later }
def SmellAllUptoCardSaid : Prop := Claim7.holds Tryz.pinned (.plain (OpenSpec.upto smellAllSpec)) smellAllUptoCard

/-- THE SECOND FORM's CARD OF 'gladstonelaw09.SmellKnown'. -/
def smellKnownUptoCard : Claim7 := { stood := { row := smellKnownUptoRow, standIns := [], harness := (true, "ea0ece1640afb468f9ee9798b58dba132f857a1c6dec74cce639003bdd8b0c32"), looks := true }, kinds := [], alts := [], goes := true, laidByText := true, laidKinds := [.handle], laidTests := true, laidLooks := .later }
def SmellKnownUptoCardSaid : Prop := Claim7.holds Tryz.pinned (.plain (OpenSpec.upto smellKnownSpec)) smellKnownUptoCard
end Rows
end Go.Proofs.YtkenloilljeliaaGreatDoor
