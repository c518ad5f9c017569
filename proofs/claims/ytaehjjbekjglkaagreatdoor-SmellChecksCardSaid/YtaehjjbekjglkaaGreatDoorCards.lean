/-
  DERIVED. GIVEN WITH THE SEED: THE CARDS: each row of YtaehjjbekjglkaaGreatDoorRows.lean that lists a variable, with what it lists TIED to the program's text (the seventh form; the later family's looks); each row that meets fmt, with fmt's text TOLD by the authors' own Lean function (tested against real Go, not proved from fmt's source: count such statements apart). THE CARD IS WHAT COUNTS. Prove the row's statement (the work); the ties are given (YtaehjjbekjglkaaGreatDoorTie.lean); close each card by the builder's one call (the guide's Derived/Test/ToyasCard.lean, 'card_holds'). Laid BY PROGRAM, IN A SANDBOX (cutbox-door.mjs). By AI agents, Wed Nov 11 2026. No macro, syntax, notation, axiom, sorry.
-/
import Derived.Test.YtaehjjbekjglkaaGreatDoorRows
import GoSem.ClaimSeven
namespace Go.Proofs.YtaehjjbekjglkaaGreatDoor
namespace Rows

/-- THE TIED CARD OF 'gladstonelaw09.SmellChecks'. -/
def smellChecksCard : Claim7 := { stood := { row := smellChecksRow, standIns := [], harness := (true, "6a335471e46ed83d74616de545a65863b0f2349136a744ad660b2183450c6b4f"), looks := true }, kinds := [], alts := [], goes := true, laidByText := true, laidKinds := [.handle], laidTests := true, laidLooks := .later }
def SmellChecksCardSaid : Prop := Claim7.holds Tryz.pinned (.plain (OpenSpec.ofChange smellChecksSpec)) smellChecksCard

/-- THE TIED CARD OF 'gladstonelaw09.SmellSniffs'. -/
def smellSniffsCard : Claim7 := { stood := { row := smellSniffsRow, standIns := [], harness := (true, "6a335471e46ed83d74616de545a65863b0f2349136a744ad660b2183450c6b4f"), looks := true }, kinds := [], alts := [], goes := true, laidByText := true, laidKinds := [.handle], laidTests := true, laidLooks := .later }
def SmellSniffsCardSaid : Prop := Claim7.holds Tryz.pinned (.plain (OpenSpec.ofChange smellSniffsSpec)) smellSniffsCard

/-- THE TIED CARD OF 'gladstonelaw09.SmellComes'. -/
def smellComesCard : Claim7 := { stood := { row := smellComesRow, standIns := [], harness := (true, "6a335471e46ed83d74616de545a65863b0f2349136a744ad660b2183450c6b4f"), looks := true }, kinds := [], alts := [], goes := true, laidByText := true, laidKinds := [.handle], laidTests := true, laidLooks := .later }
def SmellComesCardSaid : Prop := Claim7.holds Tryz.pinned (.plain (OpenSpec.ofChange smellComesSpec)) smellComesCard

/-- THE TIED CARD OF 'gladstonelaw09.SmellFirsts'. -/
def smellFirstsCard : Claim7 := { stood := { row := smellFirstsRow, standIns := [], harness := (true, "6a335471e46ed83d74616de545a65863b0f2349136a744ad660b2183450c6b4f"), looks := true }, kinds := [], alts := [], goes := true, laidByText := true, laidKinds := [.handle], laidTests := true, laidLooks := .later }
def SmellFirstsCardSaid : Prop := Claim7.holds Tryz.pinned (.plain (OpenSpec.ofChange smellFirstsSpec)) smellFirstsCard

/-- THE TIED CARD OF 'gladstonelaw09.SmellSuspects'. -/
def smellSuspectsCard : Claim7 := { stood := { row := smellSuspectsRow, standIns := [], harness := (true, "6a335471e46ed83d74616de545a65863b0f2349136a744ad660b2183450c6b4f"), looks := true }, kinds := [], alts := [], goes := true, laidByText := true, laidKinds := [.handle], laidTests := true, laidLooks := .later }
def SmellSuspectsCardSaid : Prop := Claim7.holds Tryz.pinned (.plain (OpenSpec.ofChange smellSuspectsSpec)) smellSuspectsCard

/-- THE TIED CARD OF 'gladstonelaw09.SmellVerdicts'. -/
def smellVerdictsCard : Claim7 := { stood := { row := smellVerdictsRow, standIns := [], harness := (true, "6a335471e46ed83d74616de545a65863b0f2349136a744ad660b2183450c6b4f"), looks := true }, kinds := [], alts := [], goes := true, laidByText := true, laidKinds := [.handle], laidTests := true, laidLooks := .later }
def SmellVerdictsCardSaid : Prop := Claim7.holds Tryz.pinned (.plain (OpenSpec.ofChange smellVerdictsSpec)) smellVerdictsCard

/-- THE SECOND FORM's CARD OF 'gladstonelaw09.SmellChecks'. -/
def smellChecksUptoCard : Claim7 := { stood := { row := smellChecksUptoRow, standIns := [], harness := (true, "6a335471e46ed83d74616de545a65863b0f2349136a744ad660b2183450c6b4f"), looks := true }, kinds := [], alts := [], goes := true, laidByText := true, laidKinds := [.handle], laidTests := true, laidLooks := .later }
def SmellChecksUptoCardSaid : Prop := Claim7.holds Tryz.pinned (.plain (OpenSpec.upto smellChecksSpec)) smellChecksUptoCard

/-- THE SECOND FORM's CARD OF 'gladstonelaw09.SmellSniffs'. -/
def smellSniffsUptoCard : Claim7 := { stood := { row := smellSniffsUptoRow, standIns := [], harness := (true, "6a335471e46ed83d74616de545a65863b0f2349136a744ad660b2183450c6b4f"), looks := true }, kinds := [], alts := [], goes := true, laidByText := true, laidKinds := [.handle], laidTests := true, laidLooks := .later }
def SmellSniffsUptoCardSaid : Prop := Claim7.holds Tryz.pinned (.plain (OpenSpec.upto smellSniffsSpec)) smellSniffsUptoCard

/-- THE SECOND FORM's CARD OF 'gladstonelaw09.SmellComes'. -/
def smellComesUptoCard : Claim7 := { stood := { row := smellComesUptoRow, standIns := [], harness := (true, "6a335471e46ed83d74616de545a65863b0f2349136a744ad660b2183450c6b4f"), looks := true }, kinds := [], alts := [], goes := true, laidByText := true, laidKinds := [.handle], laidTests := true, laidLooks := .later }
def SmellComesUptoCardSaid : Prop := Claim7.holds Tryz.pinned (.plain (OpenSpec.upto smellComesSpec)) smellComesUptoCard

/-- THE SECOND FORM's CARD OF 'gladstonelaw09.SmellFirsts'. -/
def smellFirstsUptoCard : Claim7 := { stood := { row := smellFirstsUptoRow, standIns := [], harness := (true, "6a335471e46ed83d74616de545a65863b0f2349136a744ad660b2183450c6b4f"), looks := true }, kinds := [], alts := [], goes := true, laidByText := true, laidKinds := [.handle], laidTests := true, laidLooks := .later }
def SmellFirstsUptoCardSaid : Prop := Claim7.holds Tryz.pinned (.plain (OpenSpec.upto smellFirstsSpec)) smellFirstsUptoCard

/-- THE SECOND FORM's CARD OF 'gladstonelaw09.SmellSuspects'. -/
def smellSuspectsUptoCard : Claim7 := { stood := { row := smellSuspectsUptoRow, standIns := [], harness := (true, "6a335471e46ed83d74616de545a65863b0f2349136a744ad660b2183450c6b4f"), looks := true }, kinds := [], alts := [], goes := true, laidByText := true, laidKinds := [.handle], laidTests := true, laidLooks := .later }
def SmellSuspectsUptoCardSaid : Prop := Claim7.holds Tryz.pinned (.plain (OpenSpec.upto smellSuspectsSpec)) smellSuspectsUptoCard

/-- THE SECOND FORM's CARD OF 'gladstonelaw09.SmellVerdicts'. -/
def smellVerdictsUptoCard : Claim7 := { stood := { row := smellVerdictsUptoRow, standIns := [], harness := (true, "6a335471e46ed83d74616de545a65863b0f2349136a744ad660b2183450c6b4f"), looks := true }, kinds := [], alts := [], goes := true, laidByText := true, laidKinds := [.handle], laidTests := true, laidLooks := .later }
def SmellVerdictsUptoCardSaid : Prop := Claim7.holds Tryz.pinned (.plain (OpenSpec.upto smellVerdictsSpec)) smellVerdictsUptoCard
end Rows
end Go.Proofs.YtaehjjbekjglkaaGreatDoor
