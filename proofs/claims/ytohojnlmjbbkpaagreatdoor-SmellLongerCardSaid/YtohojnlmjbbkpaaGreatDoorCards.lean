/-
  DERIVED. GIVEN WITH THE SEED: THE CARDS: each row of YtohojnlmjbbkpaaGreatDoorRows.lean that lists a variable, with what it lists TIED to the program's text (the seventh form; the later family's looks); each row that meets fmt, with fmt's text TOLD by the authors' own Lean function (tested against real Go, not proved from fmt's source: count such statements apart). THE CARD IS WHAT COUNTS. Prove the row's statement (the work); the ties are given (YtohojnlmjbbkpaaGreatDoorTie.lean); close each card by the builder's one call (the guide's Derived/Test/ToyasCard.lean, 'card_holds'). Laid BY PROGRAM, IN A SANDBOX (cutbox-door.mjs). By AI agents, Wed Nov 11 2026. No macro, syntax, notation, axiom, sorry.
-/
import Derived.Test.YtohojnlmjbbkpaaGreatDoorRows
import GoSem.ClaimSeven
namespace Go.Proofs.YtohojnlmjbbkpaaGreatDoor
namespace Rows

/-- THE TIED CARD OF 'gladstonelaw09.SmellChecks'. -/
def smellChecksCard : Claim7 := { stood := { row := smellChecksRow, standIns := [], harness := (true, "c65935e0ffe5db02ed7b382706e1ab1f8419c2cfffd8e896179f5e5685e8772d"), looks := true }, kinds := [], alts := [], goes := true, laidByText := true, laidKinds := [.handle], laidTests := true, laidLooks := .later }
def SmellChecksCardSaid : Prop := Claim7.holds Tryz.pinned (.plain (OpenSpec.ofChange smellChecksSpec)) smellChecksCard

/-- THE TIED CARD OF 'gladstonelaw09.SmellSniffs'. -/
def smellSniffsCard : Claim7 := { stood := { row := smellSniffsRow, standIns := [], harness := (true, "c65935e0ffe5db02ed7b382706e1ab1f8419c2cfffd8e896179f5e5685e8772d"), looks := true }, kinds := [], alts := [], goes := true, laidByText := true, laidKinds := [.handle], laidTests := true, laidLooks := .later }
def SmellSniffsCardSaid : Prop := Claim7.holds Tryz.pinned (.plain (OpenSpec.ofChange smellSniffsSpec)) smellSniffsCard

/-- THE TIED CARD OF 'gladstonelaw09.SmellReach'. -/
def smellReachCard : Claim7 := { stood := { row := smellReachRow, standIns := [], harness := (true, "c65935e0ffe5db02ed7b382706e1ab1f8419c2cfffd8e896179f5e5685e8772d"), looks := true }, kinds := [], alts := [], goes := true, laidByText := true, laidKinds := [.handle], laidTests := true, laidLooks := .later }
def SmellReachCardSaid : Prop := Claim7.holds Tryz.pinned (.plain (OpenSpec.ofChange smellReachSpec)) smellReachCard

/-- THE TIED CARD OF 'gladstonelaw09.SmellWrong'. -/
def smellWrongCard : Claim7 := { stood := { row := smellWrongRow, standIns := [], harness := (true, "c65935e0ffe5db02ed7b382706e1ab1f8419c2cfffd8e896179f5e5685e8772d"), looks := true }, kinds := [], alts := [], goes := true, laidByText := true, laidKinds := [.handle], laidTests := true, laidLooks := .later }
def SmellWrongCardSaid : Prop := Claim7.holds Tryz.pinned (.plain (OpenSpec.ofChange smellWrongSpec)) smellWrongCard

/-- THE TIED CARD OF 'gladstonelaw09.SmellSniff'. -/
def smellSniffCard : Claim7 := { stood := { row := smellSniffRow, standIns := [], harness := (true, "c65935e0ffe5db02ed7b382706e1ab1f8419c2cfffd8e896179f5e5685e8772d"), looks := true }, kinds := [], alts := [], goes := true, laidByText := true, laidKinds := [.handle], laidTests := true, laidLooks := .later }
def SmellSniffCardSaid : Prop := Claim7.holds Tryz.pinned (.plain (OpenSpec.ofChange smellSniffSpec)) smellSniffCard

/-- THE TIED CARD OF 'gladstonelaw09.SmellSurer'. -/
def smellSurerCard : Claim7 := { stood := { row := smellSurerRow, standIns := [], harness := (true, "c65935e0ffe5db02ed7b382706e1ab1f8419c2cfffd8e896179f5e5685e8772d"), looks := true }, kinds := [], alts := [], goes := true, laidByText := true, laidKinds := [.handle], laidTests := true, laidLooks := .later }
def SmellSurerCardSaid : Prop := Claim7.holds Tryz.pinned (.plain (OpenSpec.ofChange smellSurerSpec)) smellSurerCard

/-- THE TIED CARD OF 'gladstonelaw09.SmellComes'. -/
def smellComesCard : Claim7 := { stood := { row := smellComesRow, standIns := [], harness := (true, "c65935e0ffe5db02ed7b382706e1ab1f8419c2cfffd8e896179f5e5685e8772d"), looks := true }, kinds := [], alts := [], goes := true, laidByText := true, laidKinds := [.handle], laidTests := true, laidLooks := .later }
def SmellComesCardSaid : Prop := Claim7.holds Tryz.pinned (.plain (OpenSpec.ofChange smellComesSpec)) smellComesCard

/-- THE TIED CARD OF 'gladstonelaw09.SmellSafe'. -/
def smellSafeCard : Claim7 := { stood := { row := smellSafeRow, standIns := [], harness := (true, "c65935e0ffe5db02ed7b382706e1ab1f8419c2cfffd8e896179f5e5685e8772d"), looks := true }, kinds := [], alts := [], goes := true, laidByText := true, laidKinds := [.handle], laidTests := true, laidLooks := .later }
def SmellSafeCardSaid : Prop := Claim7.holds Tryz.pinned (.plain (OpenSpec.ofChange smellSafeSpec)) smellSafeCard

/-- THE TIED CARD OF 'gladstonelaw09.SmellFirsts'. -/
def smellFirstsCard : Claim7 := { stood := { row := smellFirstsRow, standIns := [], harness := (true, "c65935e0ffe5db02ed7b382706e1ab1f8419c2cfffd8e896179f5e5685e8772d"), looks := true }, kinds := [], alts := [], goes := true, laidByText := true, laidKinds := [.handle], laidTests := true, laidLooks := .later }
def SmellFirstsCardSaid : Prop := Claim7.holds Tryz.pinned (.plain (OpenSpec.ofChange smellFirstsSpec)) smellFirstsCard

/-- THE TIED CARD OF 'gladstonelaw09.SmellSuspects'. -/
def smellSuspectsCard : Claim7 := { stood := { row := smellSuspectsRow, standIns := [], harness := (true, "c65935e0ffe5db02ed7b382706e1ab1f8419c2cfffd8e896179f5e5685e8772d"), looks := true }, kinds := [], alts := [], goes := true, laidByText := true, laidKinds := [.handle], laidTests := true, laidLooks := .later }
def SmellSuspectsCardSaid : Prop := Claim7.holds Tryz.pinned (.plain (OpenSpec.ofChange smellSuspectsSpec)) smellSuspectsCard

/-- THE TIED CARD OF 'gladstonelaw09.SmellLater'. -/
def smellLaterCard : Claim7 := { stood := { row := smellLaterRow, standIns := [], harness := (true, "c65935e0ffe5db02ed7b382706e1ab1f8419c2cfffd8e896179f5e5685e8772d"), looks := true }, kinds := [], alts := [], goes := true, laidByText := true, laidKinds := [.handle], laidTests := true, laidLooks := .later }
def SmellLaterCardSaid : Prop := Claim7.holds Tryz.pinned (.plain (OpenSpec.ofChange smellLaterSpec)) smellLaterCard

/-- THE TIED CARD OF 'gladstonelaw09.SmellMixed'. -/
def smellMixedCard : Claim7 := { stood := { row := smellMixedRow, standIns := [], harness := (true, "c65935e0ffe5db02ed7b382706e1ab1f8419c2cfffd8e896179f5e5685e8772d"), looks := true }, kinds := [], alts := [], goes := true, laidByText := true, laidKinds := [.handle], laidTests := true, laidLooks := .later }
def SmellMixedCardSaid : Prop := Claim7.holds Tryz.pinned (.plain (OpenSpec.ofChange smellMixedSpec)) smellMixedCard

/-- THE TIED CARD OF 'gladstonelaw09.SmellVerdicts'. -/
def smellVerdictsCard : Claim7 := { stood := { row := smellVerdictsRow, standIns := [], harness := (true, "c65935e0ffe5db02ed7b382706e1ab1f8419c2cfffd8e896179f5e5685e8772d"), looks := true }, kinds := [], alts := [], goes := true, laidByText := true, laidKinds := [.handle], laidTests := true, laidLooks := .later }
def SmellVerdictsCardSaid : Prop := Claim7.holds Tryz.pinned (.plain (OpenSpec.ofChange smellVerdictsSpec)) smellVerdictsCard

/-- THE TIED CARD OF 'gladstonelaw09.SmellLonger'. -/
def smellLongerCard : Claim7 := { stood := { row := smellLongerRow, standIns := [], harness := (true, "c65935e0ffe5db02ed7b382706e1ab1f8419c2cfffd8e896179f5e5685e8772d"), looks := true }, kinds := [], alts := [], goes := true, laidByText := true, laidKinds := [.handle], laidTests := true, laidLooks := .later }
def SmellLongerCardSaid : Prop := Claim7.holds Tryz.pinned (.plain (OpenSpec.ofChange smellLongerSpec)) smellLongerCard

/-- THE TIED CARD OF 'gladstonelaw09.SmellNose'. -/
def smellNoseCard : Claim7 := { stood := { row := smellNoseRow, standIns := [], harness := (true, "c65935e0ffe5db02ed7b382706e1ab1f8419c2cfffd8e896179f5e5685e8772d"), looks := true }, kinds := [], alts := [], goes := true, laidByText := true, laidKinds := [.handle], laidTests := true, laidLooks := .later }
def SmellNoseCardSaid : Prop := Claim7.holds Tryz.pinned (.plain (OpenSpec.ofChange smellNoseSpec)) smellNoseCard

/-- THE TIED CARD OF 'gladstonelaw09.SmellTrue'. -/
def smellTrueCard : Claim7 := { stood := { row := smellTrueRow, standIns := [], harness := (true, "c65935e0ffe5db02ed7b382706e1ab1f8419c2cfffd8e896179f5e5685e8772d"), looks := true }, kinds := [], alts := [], goes := true, laidByText := true, laidKinds := [.handle], laidTests := true, laidLooks := .later }
def SmellTrueCardSaid : Prop := Claim7.holds Tryz.pinned (.plain (OpenSpec.ofChange smellTrueSpec)) smellTrueCard

/-- THE TIED CARD OF 'gladstonelaw09.SmellOwn'. -/
def smellOwnCard : Claim7 := { stood := { row := smellOwnRow, standIns := [], harness := (true, "c65935e0ffe5db02ed7b382706e1ab1f8419c2cfffd8e896179f5e5685e8772d"), looks := true }, kinds := [], alts := [], goes := true, laidByText := true, laidKinds := [.handle], laidTests := true, laidLooks := .later }
def SmellOwnCardSaid : Prop := Claim7.holds Tryz.pinned (.plain (OpenSpec.ofChange smellOwnSpec)) smellOwnCard

/-- THE TIED CARD OF 'gladstonelaw09.SmellAll'. -/
def smellAllCard : Claim7 := { stood := { row := smellAllRow, standIns := [], harness := (true, "c65935e0ffe5db02ed7b382706e1ab1f8419c2cfffd8e896179f5e5685e8772d"), looks := true }, kinds := [], alts := [], goes := true, laidByText := true, laidKinds := [.handle], laidTests := true, laidLooks := .later }
def SmellAllCardSaid : Prop := Claim7.holds Tryz.pinned (.plain (OpenSpec.ofChange smellAllSpec)) smellAllCard

/-- THE TIED CARD OF 'gladstonelaw09.SmellKnown'. -/
def smellKnownCard : Claim7 := { stood := { row := smellKnownRow, standIns := [], harness := (true, "c65935e0ffe5db02ed7b382706e1ab1f8419c2cfffd8e896179f5e5685e8772d"), looks := true }, kinds := [], alts := [], goes := true, laidByText := true, laidKinds := [.handle], laidTests := true, laidLooks := .later }
def SmellKnownCardSaid : Prop := Claim7.holds Tryz.pinned (.plain (OpenSpec.ofChange smellKnownSpec)) smellKnownCard

/-- THE SECOND FORM's CARD OF 'gladstonelaw09.SmellChecks'. -/
def smellChecksUptoCard : Claim7 := { stood := { row := smellChecksUptoRow, standIns := [], harness := (true, "c65935e0ffe5db02ed7b382706e1ab1f8419c2cfffd8e896179f5e5685e8772d"), looks := true }, kinds := [], alts := [], goes := true, laidByText := true, laidKinds := [.handle], laidTests := true, laidLooks := .later }
def SmellChecksUptoCardSaid : Prop := Claim7.holds Tryz.pinned (.plain (OpenSpec.upto smellChecksSpec)) smellChecksUptoCard

/-- THE SECOND FORM's CARD OF 'gladstonelaw09.SmellSniffs'. -/
def smellSniffsUptoCard : Claim7 := { stood := { row := smellSniffsUptoRow, standIns := [], harness := (true, "c65935e0ffe5db02ed7b382706e1ab1f8419c2cfffd8e896179f5e5685e8772d"), looks := true }, kinds := [], alts := [], goes := true, laidByText := true, laidKinds := [.handle], laidTests := true, laidLooks := .later }
def SmellSniffsUptoCardSaid : Prop := Claim7.holds Tryz.pinned (.plain (OpenSpec.upto smellSniffsSpec)) smellSniffsUptoCard

/-- THE SECOND FORM's CARD OF 'gladstonelaw09.SmellReach'. -/
def smellReachUptoCard : Claim7 := { stood := { row := smellReachUptoRow, standIns := [], harness := (true, "c65935e0ffe5db02ed7b382706e1ab1f8419c2cfffd8e896179f5e5685e8772d"), looks := true }, kinds := [], alts := [], goes := true, laidByText := true, laidKinds := [.handle], laidTests := true, laidLooks := .later }
def SmellReachUptoCardSaid : Prop := Claim7.holds Tryz.pinned (.plain (OpenSpec.upto smellReachSpec)) smellReachUptoCard

/-- THE SECOND FORM's CARD OF 'gladstonelaw09.SmellWrong'. -/
def smellWrongUptoCard : Claim7 := { stood := { row := smellWrongUptoRow, standIns := [], harness := (true, "c65935e0ffe5db02ed7b382706e1ab1f8419c2cfffd8e896179f5e5685e8772d"), looks := true }, kinds := [], alts := [], goes := true, laidByText := true, laidKinds := [.handle], laidTests := true, laidLooks := .later }
def SmellWrongUptoCardSaid : Prop := Claim7.holds Tryz.pinned (.plain (OpenSpec.upto smellWrongSpec)) smellWrongUptoCard

/-- THE SECOND FORM's CARD OF 'gladstonelaw09.SmellSniff'. -/
def smellSniffUptoCard : Claim7 := { stood := { row := smellSniffUptoRow, standIns := [], harness := (true, "c65935e0ffe5db02ed7b382706e1ab1f8419c2cfffd8e896179f5e5685e8772d"), looks := true }, kinds := [], alts := [], goes := true, laidByText := true, laidKinds := [.handle], laidTests := true, laidLooks := .later }
def SmellSniffUptoCardSaid : Prop := Claim7.holds Tryz.pinned (.plain (OpenSpec.upto smellSniffSpec)) smellSniffUptoCard

/-- THE SECOND FORM's CARD OF 'gladstonelaw09.SmellSurer'. -/
def smellSurerUptoCard : Claim7 := { stood := { row := smellSurerUptoRow, standIns := [], harness := (true, "c65935e0ffe5db02ed7b382706e1ab1f8419c2cfffd8e896179f5e5685e8772d"), looks := true }, kinds := [], alts := [], goes := true, laidByText := true, laidKinds := [.handle], laidTests := true, laidLooks := .later }
def SmellSurerUptoCardSaid : Prop := Claim7.holds Tryz.pinned (.plain (OpenSpec.upto smellSurerSpec)) smellSurerUptoCard

/-- THE SECOND FORM's CARD OF 'gladstonelaw09.SmellComes'. -/
def smellComesUptoCard : Claim7 := { stood := { row := smellComesUptoRow, standIns := [], harness := (true, "c65935e0ffe5db02ed7b382706e1ab1f8419c2cfffd8e896179f5e5685e8772d"), looks := true }, kinds := [], alts := [], goes := true, laidByText := true, laidKinds := [.handle], laidTests := true, laidLooks := .later }
def SmellComesUptoCardSaid : Prop := Claim7.holds Tryz.pinned (.plain (OpenSpec.upto smellComesSpec)) smellComesUptoCard

/-- THE SECOND FORM's CARD OF 'gladstonelaw09.SmellSafe'. -/
def smellSafeUptoCard : Claim7 := { stood := { row := smellSafeUptoRow, standIns := [], harness := (true, "c65935e0ffe5db02ed7b382706e1ab1f8419c2cfffd8e896179f5e5685e8772d"), looks := true }, kinds := [], alts := [], goes := true, laidByText := true, laidKinds := [.handle], laidTests := true, laidLooks := .later }
def SmellSafeUptoCardSaid : Prop := Claim7.holds Tryz.pinned (.plain (OpenSpec.upto smellSafeSpec)) smellSafeUptoCard

/-- THE SECOND FORM's CARD OF 'gladstonelaw09.SmellFirsts'. -/
def smellFirstsUptoCard : Claim7 := { stood := { row := smellFirstsUptoRow, standIns := [], harness := (true, "c65935e0ffe5db02ed7b382706e1ab1f8419c2cfffd8e896179f5e5685e8772d"), looks := true }, kinds := [], alts := [], goes := true, laidByText := true, laidKinds := [.handle], laidTests := true, laidLooks := .later }
def SmellFirstsUptoCardSaid : Prop := Claim7.holds Tryz.pinned (.plain (OpenSpec.upto smellFirstsSpec)) smellFirstsUptoCard

/-- THE SECOND FORM's CARD OF 'gladstonelaw09.SmellSuspects'. -/
def smellSuspectsUptoCard : Claim7 := { stood := { row := smellSuspectsUptoRow, standIns := [], harness := (true, "c65935e0ffe5db02ed7b382706e1ab1f8419c2cfffd8e896179f5e5685e8772d"), looks := true }, kinds := [], alts := [], goes := true, laidByText := true, laidKinds := [.handle], laidTests := true, laidLooks := .later }
def SmellSuspectsUptoCardSaid : Prop := Claim7.holds Tryz.pinned (.plain (OpenSpec.upto smellSuspectsSpec)) smellSuspectsUptoCard

/-- THE SECOND FORM's CARD OF 'gladstonelaw09.SmellLater'. -/
def smellLaterUptoCard : Claim7 := { stood := { row := smellLaterUptoRow, standIns := [], harness := (true, "c65935e0ffe5db02ed7b382706e1ab1f8419c2cfffd8e896179f5e5685e8772d"), looks := true }, kinds := [], alts := [], goes := true, laidByText := true, laidKinds := [.handle], laidTests := true, laidLooks := .later }
def SmellLaterUptoCardSaid : Prop := Claim7.holds Tryz.pinned (.plain (OpenSpec.upto smellLaterSpec)) smellLaterUptoCard

/-- THE SECOND FORM's CARD OF 'gladstonelaw09.SmellMixed'. -/
def smellMixedUptoCard : Claim7 := { stood := { row := smellMixedUptoRow, standIns := [], harness := (true, "c65935e0ffe5db02ed7b382706e1ab1f8419c2cfffd8e896179f5e5685e8772d"), looks := true }, kinds := [], alts := [], goes := true, laidByText := true, laidKinds := [.handle], laidTests := true, laidLooks := .later }
def SmellMixedUptoCardSaid : Prop := Claim7.holds Tryz.pinned (.plain (OpenSpec.upto smellMixedSpec)) smellMixedUptoCard

/-- THE SECOND FORM's CARD OF 'gladstonelaw09.SmellVerdicts'. -/
def smellVerdictsUptoCard : Claim7 := { stood := { row := smellVerdictsUptoRow, standIns := [], harness := (true, "c65935e0ffe5db02ed7b382706e1ab1f8419c2cfffd8e896179f5e5685e8772d"), looks := true }, kinds := [], alts := [], goes := true, laidByText := true, laidKinds := [.handle], laidTests := true, laidLooks := .later }
def SmellVerdictsUptoCardSaid : Prop := Claim7.holds Tryz.pinned (.plain (OpenSpec.upto smellVerdictsSpec)) smellVerdictsUptoCard

/-- THE SECOND FORM's CARD OF 'gladstonelaw09.SmellLonger'. -/
def smellLongerUptoCard : Claim7 := { stood := { row := smellLongerUptoRow, standIns := [], harness := (true, "c65935e0ffe5db02ed7b382706e1ab1f8419c2cfffd8e896179f5e5685e8772d"), looks := true }, kinds := [], alts := [], goes := true, laidByText := true, laidKinds := [.handle], laidTests := true, laidLooks := .later }
def SmellLongerUptoCardSaid : Prop := Claim7.holds Tryz.pinned (.plain (OpenSpec.upto smellLongerSpec)) smellLongerUptoCard

/-- THE SECOND FORM's CARD OF 'gladstonelaw09.SmellNose'. -/
def smellNoseUptoCard : Claim7 := { stood := { row := smellNoseUptoRow, standIns := [], harness := (true, "c65935e0ffe5db02ed7b382706e1ab1f8419c2cfffd8e896179f5e5685e8772d"), looks := true }, kinds := [], alts := [], goes := true, laidByText := true, laidKinds := [.handle], laidTests := true, laidLooks := .later }
def SmellNoseUptoCardSaid : Prop := Claim7.holds Tryz.pinned (.plain (OpenSpec.upto smellNoseSpec)) smellNoseUptoCard

/-- THE SECOND FORM's CARD OF 'gladstonelaw09.SmellTrue'. -/
def smellTrueUptoCard : Claim7 := { stood := { row := smellTrueUptoRow, standIns := [], harness := (true, "c65935e0ffe5db02ed7b382706e1ab1f8419c2cfffd8e896179f5e5685e8772d"), looks := true }, kinds := [], alts := [], goes := true, laidByText := true, laidKinds := [.handle], laidTests := true, laidLooks := .later }
def SmellTrueUptoCardSaid : Prop := Claim7.holds Tryz.pinned (.plain (OpenSpec.upto smellTrueSpec)) smellTrueUptoCard

/-- THE SECOND FORM's CARD OF 'gladstonelaw09.SmellOwn'. -/
def smellOwnUptoCard : Claim7 := { stood := { row := smellOwnUptoRow, standIns := [], harness := (true, "c65935e0ffe5db02ed7b382706e1ab1f8419c2cfffd8e896179f5e5685e8772d"), looks := true }, kinds := [], alts := [], goes := true, laidByText := true, laidKinds := [.handle], laidTests := true, laidLooks := .later }
def SmellOwnUptoCardSaid : Prop := Claim7.holds Tryz.pinned (.plain (OpenSpec.upto smellOwnSpec)) smellOwnUptoCard

/-- THE SECOND FORM's CARD OF 'gladstonelaw09.SmellAll'. -/
def smellAllUptoCard : Claim7 := { stood := { row := smellAllUptoRow, standIns := [], harness := (true, "c65935e0ffe5db02ed7b382706e1ab1f8419c2cfffd8e896179f5e5685e8772d"), looks := true }, kinds := [], alts := [], goes := true, laidByText := true, laidKinds := [.handle], laidTests := true, laidLooks := .later }
def SmellAllUptoCardSaid : Prop := Claim7.holds Tryz.pinned (.plain (OpenSpec.upto smellAllSpec)) smellAllUptoCard

/-- THE SECOND FORM's CARD OF 'gladstonelaw09.SmellKnown'. -/
def smellKnownUptoCard : Claim7 := { stood := { row := smellKnownUptoRow, standIns := [], harness := (true, "c65935e0ffe5db02ed7b382706e1ab1f8419c2cfffd8e896179f5e5685e8772d"), looks := true }, kinds := [], alts := [], goes := true, laidByText := true, laidKinds := [.handle], laidTests := true, laidLooks := .later }
def SmellKnownUptoCardSaid : Prop := Claim7.holds Tryz.pinned (.plain (OpenSpec.upto smellKnownSpec)) smellKnownUptoCard
end Rows
end Go.Proofs.YtohojnlmjbbkpaaGreatDoor
