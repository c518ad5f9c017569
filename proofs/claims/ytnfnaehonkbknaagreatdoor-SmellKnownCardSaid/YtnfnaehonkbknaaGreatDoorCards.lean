/-
  DERIVED. GIVEN WITH THE SEED: THE CARDS: each row of YtnfnaehonkbknaaGreatDoorRows.lean that lists a variable, with what it lists TIED to the program's text (the seventh form; the later family's looks); each row that meets fmt, with fmt's text TOLD by the authors' own Lean function (tested against real Go, not proved from fmt's source: count such statements apart). THE CARD IS WHAT COUNTS. Prove the row's statement (the work); the ties are given (YtnfnaehonkbknaaGreatDoorTie.lean); close each card by the builder's one call (the guide's Derived/Test/ToyasCard.lean, 'card_holds'). Laid BY PROGRAM, IN A SANDBOX (cutbox-door.mjs). By AI agents, Wed Nov 11 2026. No macro, syntax, notation, axiom, sorry.
-/
import Derived.Test.YtnfnaehonkbknaaGreatDoorRows
import GoSem.ClaimSeven
namespace Go.Proofs.YtnfnaehonkbknaaGreatDoor
namespace Rows

/-- THE TIED CARD OF 'gladstonelaw09.SmellSafe'. -/
def smellSafeCard : Claim7 := { stood := { row := smellSafeRow, standIns := [], harness := (true, "2852e31d5adcd91408d247945665a6cdaac13ffbe27df01981c663c4cc0b8480"), looks := true }, kinds := [], alts := [], goes := true, laidByText := true, laidKinds := [.handle], laidTests := true, laidLooks := .later }
def SmellSafeCardSaid : Prop := Claim7.holds Tryz.pinned (.plain (OpenSpec.ofChange smellSafeSpec)) smellSafeCard

/-- THE TIED CARD OF 'gladstonelaw09.SmellNose'. -/
def smellNoseCard : Claim7 := { stood := { row := smellNoseRow, standIns := [], harness := (true, "2852e31d5adcd91408d247945665a6cdaac13ffbe27df01981c663c4cc0b8480"), looks := true }, kinds := [], alts := [], goes := true, laidByText := true, laidKinds := [.handle], laidTests := true, laidLooks := .later }
def SmellNoseCardSaid : Prop := Claim7.holds Tryz.pinned (.plain (OpenSpec.ofChange smellNoseSpec)) smellNoseCard

/-- THE TIED CARD OF 'gladstonelaw09.SmellAll'. -/
def smellAllCard : Claim7 := { stood := { row := smellAllRow, standIns := [], harness := (true, "2852e31d5adcd91408d247945665a6cdaac13ffbe27df01981c663c4cc0b8480"), looks := true }, kinds := [], alts := [], goes := true, laidByText := true, laidKinds := [.handle], laidTests := true, laidLooks := .later }
def SmellAllCardSaid : Prop := Claim7.holds Tryz.pinned (.plain (OpenSpec.ofChange smellAllSpec)) smellAllCard

/-- THE TIED CARD OF 'gladstonelaw09.SmellKnown'. -/
def smellKnownCard : Claim7 := { stood := { row := smellKnownRow, standIns := [], harness := (true, "2852e31d5adcd91408d247945665a6cdaac13ffbe27df01981c663c4cc0b8480"), looks := true }, kinds := [], alts := [], goes := true, laidByText := true, laidKinds := [.handle], laidTests := true, laidLooks := .later }
def SmellKnownCardSaid : Prop := Claim7.holds Tryz.pinned (.plain (OpenSpec.ofChange smellKnownSpec)) smellKnownCard

/-- THE SECOND FORM's CARD OF 'gladstonelaw09.SmellSafe'. -/
def smellSafeUptoCard : Claim7 := { stood := { row := smellSafeUptoRow, standIns := [], harness := (true, "2852e31d5adcd91408d247945665a6cdaac13ffbe27df01981c663c4cc0b8480"), looks := true }, kinds := [], alts := [], goes := true, laidByText := true, laidKinds := [.handle], laidTests := true, laidLooks := .later }
def SmellSafeUptoCardSaid : Prop := Claim7.holds Tryz.pinned (.plain (OpenSpec.upto smellSafeSpec)) smellSafeUptoCard

/-- THE SECOND FORM's CARD OF 'gladstonelaw09.SmellNose'. -/
def smellNoseUptoCard : Claim7 := { stood := { row := smellNoseUptoRow, standIns := [], harness := (true, "2852e31d5adcd91408d247945665a6cdaac13ffbe27df01981c663c4cc0b8480"), looks := true }, kinds := [], alts := [], goes := true, laidByText := true, laidKinds := [.handle], laidTests := true, laidLooks := .later }
def SmellNoseUptoCardSaid : Prop := Claim7.holds Tryz.pinned (.plain (OpenSpec.upto smellNoseSpec)) smellNoseUptoCard

/-- THE SECOND FORM's CARD OF 'gladstonelaw09.SmellAll'. -/
def smellAllUptoCard : Claim7 := { stood := { row := smellAllUptoRow, standIns := [], harness := (true, "2852e31d5adcd91408d247945665a6cdaac13ffbe27df01981c663c4cc0b8480"), looks := true }, kinds := [], alts := [], goes := true, laidByText := true, laidKinds := [.handle], laidTests := true, laidLooks := .later }
def SmellAllUptoCardSaid : Prop := Claim7.holds Tryz.pinned (.plain (OpenSpec.upto smellAllSpec)) smellAllUptoCard

/-- THE SECOND FORM's CARD OF 'gladstonelaw09.SmellKnown'. -/
def smellKnownUptoCard : Claim7 := { stood := { row := smellKnownUptoRow, standIns := [], harness := (true, "2852e31d5adcd91408d247945665a6cdaac13ffbe27df01981c663c4cc0b8480"), looks := true }, kinds := [], alts := [], goes := true, laidByText := true, laidKinds := [.handle], laidTests := true, laidLooks := .later }
def SmellKnownUptoCardSaid : Prop := Claim7.holds Tryz.pinned (.plain (OpenSpec.upto smellKnownSpec)) smellKnownUptoCard
end Rows
end Go.Proofs.YtnfnaehonkbknaaGreatDoor
