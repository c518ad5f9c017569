/-
  DERIVED. GIVEN WITH THE SEED: THE CARDS: each row of YtofmadjgbcopdaaGreatDoorRows.lean that lists a variable, with what it lists TIED to the program's text (the seventh form; the later family's looks); each row that meets fmt, with fmt's text TOLD by the authors' own Lean function (tested against real Go, not proved from fmt's source: count such statements apart). THE CARD IS WHAT COUNTS. Prove the row's statement (the work); the ties are given (YtofmadjgbcopdaaGreatDoorTie.lean); close each card by the builder's one call (the guide's Derived/Test/ToyasCard.lean, 'card_holds'). Laid BY PROGRAM, IN A SANDBOX (cutbox-door.mjs). By AI agents, Wed Nov 11 2026. No macro, syntax, notation, axiom, sorry.
-/
import Derived.Test.YtofmadjgbcopdaaGreatDoorRows
import GoSem.ClaimSeven
namespace Go.Proofs.YtofmadjgbcopdaaGreatDoor
namespace Rows

/-- THE TIED CARD OF 'gladstonelaw06.BarrowChecks'. -/
def barrowChecksCard : Claim7 := { stood := { row := barrowChecksRow, standIns := [], harness := (true, "0cbb10fac3cc5d98e611f710665526b70a35d16e2c2f95a72bce42dd64753871"), looks := true }, kinds := [], alts := [], goes := true, laidByText := true, laidKinds := [.handle], laidTests := true, laidLooks := .later }
def BarrowChecksCardSaid : Prop := Claim7.holds Tryz.pinned (.plain (OpenSpec.ofChange barrowChecksSpec)) barrowChecksCard

/-- THE TIED CARD OF 'gladstonelaw06.BarrowJobs'. -/
def barrowJobsCard : Claim7 := { stood := { row := barrowJobsRow, standIns := [], harness := (true, "0cbb10fac3cc5d98e611f710665526b70a35d16e2c2f95a72bce42dd64753871"), looks := true }, kinds := [], alts := [], goes := true, laidByText := true, laidKinds := [.handle], laidTests := true, laidLooks := .later }
def BarrowJobsCardSaid : Prop := Claim7.holds Tryz.pinned (.plain (OpenSpec.ofChange barrowJobsSpec)) barrowJobsCard

/-- THE TIED CARD OF 'gladstonelaw06.BarrowRides'. -/
def barrowRidesCard : Claim7 := { stood := { row := barrowRidesRow, standIns := [], harness := (true, "0cbb10fac3cc5d98e611f710665526b70a35d16e2c2f95a72bce42dd64753871"), looks := true }, kinds := [], alts := [], goes := true, laidByText := true, laidKinds := [.handle], laidTests := true, laidLooks := .later }
def BarrowRidesCardSaid : Prop := Claim7.holds Tryz.pinned (.plain (OpenSpec.ofChange barrowRidesSpec)) barrowRidesCard

/-- THE TIED CARD OF 'gladstonelaw06.BarrowFaster'. -/
def barrowFasterCard : Claim7 := { stood := { row := barrowFasterRow, standIns := [], harness := (true, "0cbb10fac3cc5d98e611f710665526b70a35d16e2c2f95a72bce42dd64753871"), looks := true }, kinds := [], alts := [], goes := true, laidByText := true, laidKinds := [.handle], laidTests := true, laidLooks := .later }
def BarrowFasterCardSaid : Prop := Claim7.holds Tryz.pinned (.plain (OpenSpec.ofChange barrowFasterSpec)) barrowFasterCard

/-- THE TIED CARD OF 'gladstonelaw06.BarrowLater'. -/
def barrowLaterCard : Claim7 := { stood := { row := barrowLaterRow, standIns := [], harness := (true, "0cbb10fac3cc5d98e611f710665526b70a35d16e2c2f95a72bce42dd64753871"), looks := true }, kinds := [], alts := [], goes := true, laidByText := true, laidKinds := [.handle], laidTests := true, laidLooks := .later }
def BarrowLaterCardSaid : Prop := Claim7.holds Tryz.pinned (.plain (OpenSpec.ofChange barrowLaterSpec)) barrowLaterCard

/-- THE TIED CARD OF 'gladstonelaw06.BarrowVerdict'. -/
def barrowVerdictCard : Claim7 := { stood := { row := barrowVerdictRow, standIns := [], harness := (true, "0cbb10fac3cc5d98e611f710665526b70a35d16e2c2f95a72bce42dd64753871"), looks := true }, kinds := [], alts := [], goes := true, laidByText := true, laidKinds := [.handle], laidTests := true, laidLooks := .later }
def BarrowVerdictCardSaid : Prop := Claim7.holds Tryz.pinned (.plain (OpenSpec.ofChange barrowVerdictSpec)) barrowVerdictCard

/-- THE TIED CARD OF 'gladstonelaw06.BarrowFewests'. -/
def barrowFewestsCard : Claim7 := { stood := { row := barrowFewestsRow, standIns := [], harness := (true, "0cbb10fac3cc5d98e611f710665526b70a35d16e2c2f95a72bce42dd64753871"), looks := true }, kinds := [], alts := [], goes := true, laidByText := true, laidKinds := [.handle], laidTests := true, laidLooks := .later }
def BarrowFewestsCardSaid : Prop := Claim7.holds Tryz.pinned (.plain (OpenSpec.ofChange barrowFewestsSpec)) barrowFewestsCard

/-- THE TIED CARD OF 'gladstonelaw06.BarrowFewest'. -/
def barrowFewestCard : Claim7 := { stood := { row := barrowFewestRow, standIns := [], harness := (true, "0cbb10fac3cc5d98e611f710665526b70a35d16e2c2f95a72bce42dd64753871"), looks := true }, kinds := [], alts := [], goes := true, laidByText := true, laidKinds := [.handle], laidTests := true, laidLooks := .later }
def BarrowFewestCardSaid : Prop := Claim7.holds Tryz.pinned (.plain (OpenSpec.ofChange barrowFewestSpec)) barrowFewestCard

/-- THE TIED CARD OF 'gladstonelaw06.BarrowAlone'. -/
def barrowAloneCard : Claim7 := { stood := { row := barrowAloneRow, standIns := [], harness := (true, "0cbb10fac3cc5d98e611f710665526b70a35d16e2c2f95a72bce42dd64753871"), looks := true }, kinds := [], alts := [], goes := true, laidByText := true, laidKinds := [.handle], laidTests := true, laidLooks := .later }
def BarrowAloneCardSaid : Prop := Claim7.holds Tryz.pinned (.plain (OpenSpec.ofChange barrowAloneSpec)) barrowAloneCard

/-- THE TIED CARD OF 'gladstonelaw06.BarrowLoad'. -/
def barrowLoadCard : Claim7 := { stood := { row := barrowLoadRow, standIns := [], harness := (true, "0cbb10fac3cc5d98e611f710665526b70a35d16e2c2f95a72bce42dd64753871"), looks := true }, kinds := [], alts := [], goes := true, laidByText := true, laidKinds := [.handle], laidTests := true, laidLooks := .later }
def BarrowLoadCardSaid : Prop := Claim7.holds Tryz.pinned (.plain (OpenSpec.ofChange barrowLoadSpec)) barrowLoadCard

/-- THE TIED CARD OF 'gladstonelaw06.BarrowRule'. -/
def barrowRuleCard : Claim7 := { stood := { row := barrowRuleRow, standIns := [], harness := (true, "0cbb10fac3cc5d98e611f710665526b70a35d16e2c2f95a72bce42dd64753871"), looks := true }, kinds := [], alts := [], goes := true, laidByText := true, laidKinds := [.handle], laidTests := true, laidLooks := .later }
def BarrowRuleCardSaid : Prop := Claim7.holds Tryz.pinned (.plain (OpenSpec.ofChange barrowRuleSpec)) barrowRuleCard

/-- THE TIED CARD OF 'gladstonelaw06.BarrowVerdicts'. -/
def barrowVerdictsCard : Claim7 := { stood := { row := barrowVerdictsRow, standIns := [], harness := (true, "0cbb10fac3cc5d98e611f710665526b70a35d16e2c2f95a72bce42dd64753871"), looks := true }, kinds := [], alts := [], goes := true, laidByText := true, laidKinds := [.handle], laidTests := true, laidLooks := .later }
def BarrowVerdictsCardSaid : Prop := Claim7.holds Tryz.pinned (.plain (OpenSpec.ofChange barrowVerdictsSpec)) barrowVerdictsCard

/-- THE TIED CARD OF 'gladstonelaw06.BarrowSlowest'. -/
def barrowSlowestCard : Claim7 := { stood := { row := barrowSlowestRow, standIns := [], harness := (true, "0cbb10fac3cc5d98e611f710665526b70a35d16e2c2f95a72bce42dd64753871"), looks := true }, kinds := [], alts := [], goes := true, laidByText := true, laidKinds := [.handle], laidTests := true, laidLooks := .later }
def BarrowSlowestCardSaid : Prop := Claim7.holds Tryz.pinned (.plain (OpenSpec.ofChange barrowSlowestSpec)) barrowSlowestCard

/-- THE TIED CARD OF 'gladstonelaw06.BarrowPlans'. -/
def barrowPlansCard : Claim7 := { stood := { row := barrowPlansRow, standIns := [], harness := (true, "0cbb10fac3cc5d98e611f710665526b70a35d16e2c2f95a72bce42dd64753871"), looks := true }, kinds := [], alts := [], goes := true, laidByText := true, laidKinds := [.handle], laidTests := true, laidLooks := .later }
def BarrowPlansCardSaid : Prop := Claim7.holds Tryz.pinned (.plain (OpenSpec.ofChange barrowPlansSpec)) barrowPlansCard

/-- THE TIED CARD OF 'gladstonelaw06.BarrowAll'. -/
def barrowAllCard : Claim7 := { stood := { row := barrowAllRow, standIns := [], harness := (true, "0cbb10fac3cc5d98e611f710665526b70a35d16e2c2f95a72bce42dd64753871"), looks := true }, kinds := [], alts := [], goes := true, laidByText := true, laidKinds := [.handle], laidTests := true, laidLooks := .later }
def BarrowAllCardSaid : Prop := Claim7.holds Tryz.pinned (.plain (OpenSpec.ofChange barrowAllSpec)) barrowAllCard

/-- THE TIED CARD OF 'gladstonelaw06.BarrowKnown'. -/
def barrowKnownCard : Claim7 := { stood := { row := barrowKnownRow, standIns := [], harness := (true, "0cbb10fac3cc5d98e611f710665526b70a35d16e2c2f95a72bce42dd64753871"), looks := true }, kinds := [], alts := [], goes := true, laidByText := true, laidKinds := [.handle], laidTests := true, laidLooks := .later }
def BarrowKnownCardSaid : Prop := Claim7.holds Tryz.pinned (.plain (OpenSpec.ofChange barrowKnownSpec)) barrowKnownCard

/-- THE SECOND FORM's CARD OF 'gladstonelaw06.BarrowChecks'. -/
def barrowChecksUptoCard : Claim7 := { stood := { row := barrowChecksUptoRow, standIns := [], harness := (true, "0cbb10fac3cc5d98e611f710665526b70a35d16e2c2f95a72bce42dd64753871"), looks := true }, kinds := [], alts := [], goes := true, laidByText := true, laidKinds := [.handle], laidTests := true, laidLooks := .later }
def BarrowChecksUptoCardSaid : Prop := Claim7.holds Tryz.pinned (.plain (OpenSpec.upto barrowChecksSpec)) barrowChecksUptoCard

/-- THE SECOND FORM's CARD OF 'gladstonelaw06.BarrowJobs'. -/
def barrowJobsUptoCard : Claim7 := { stood := { row := barrowJobsUptoRow, standIns := [], harness := (true, "0cbb10fac3cc5d98e611f710665526b70a35d16e2c2f95a72bce42dd64753871"), looks := true }, kinds := [], alts := [], goes := true, laidByText := true, laidKinds := [.handle], laidTests := true, laidLooks := .later }
def BarrowJobsUptoCardSaid : Prop := Claim7.holds Tryz.pinned (.plain (OpenSpec.upto barrowJobsSpec)) barrowJobsUptoCard

/-- THE SECOND FORM's CARD OF 'gladstonelaw06.BarrowRides'. -/
def barrowRidesUptoCard : Claim7 := { stood := { row := barrowRidesUptoRow, standIns := [], harness := (true, "0cbb10fac3cc5d98e611f710665526b70a35d16e2c2f95a72bce42dd64753871"), looks := true }, kinds := [], alts := [], goes := true, laidByText := true, laidKinds := [.handle], laidTests := true, laidLooks := .later }
def BarrowRidesUptoCardSaid : Prop := Claim7.holds Tryz.pinned (.plain (OpenSpec.upto barrowRidesSpec)) barrowRidesUptoCard

/-- THE SECOND FORM's CARD OF 'gladstonelaw06.BarrowFaster'. -/
def barrowFasterUptoCard : Claim7 := { stood := { row := barrowFasterUptoRow, standIns := [], harness := (true, "0cbb10fac3cc5d98e611f710665526b70a35d16e2c2f95a72bce42dd64753871"), looks := true }, kinds := [], alts := [], goes := true, laidByText := true, laidKinds := [.handle], laidTests := true, laidLooks := .later }
def BarrowFasterUptoCardSaid : Prop := Claim7.holds Tryz.pinned (.plain (OpenSpec.upto barrowFasterSpec)) barrowFasterUptoCard

/-- THE SECOND FORM's CARD OF 'gladstonelaw06.BarrowLater'. -/
def barrowLaterUptoCard : Claim7 := { stood := { row := barrowLaterUptoRow, standIns := [], harness := (true, "0cbb10fac3cc5d98e611f710665526b70a35d16e2c2f95a72bce42dd64753871"), looks := true }, kinds := [], alts := [], goes := true, laidByText := true, laidKinds := [.handle], laidTests := true, laidLooks := .later }
def BarrowLaterUptoCardSaid : Prop := Claim7.holds Tryz.pinned (.plain (OpenSpec.upto barrowLaterSpec)) barrowLaterUptoCard

/-- THE SECOND FORM's CARD OF 'gladstonelaw06.BarrowVerdict'. -/
def barrowVerdictUptoCard : Claim7 := { stood := { row := barrowVerdictUptoRow, standIns := [], harness := (true, "0cbb10fac3cc5d98e611f710665526b70a35d16e2c2f95a72bce42dd64753871"), looks := true }, kinds := [], alts := [], goes := true, laidByText := true, laidKinds := [.handle], laidTests := true, laidLooks := .later }
def BarrowVerdictUptoCardSaid : Prop := Claim7.holds Tryz.pinned (.plain (OpenSpec.upto barrowVerdictSpec)) barrowVerdictUptoCard

/-- THE SECOND FORM's CARD OF 'gladstonelaw06.BarrowFewests'. -/
def barrowFewestsUptoCard : Claim7 := { stood := { row := barrowFewestsUptoRow, standIns := [], harness := (true, "0cbb10fac3cc5d98e611f710665526b70a35d16e2c2f95a72bce42dd64753871"), looks := true }, kinds := [], alts := [], goes := true, laidByText := true, laidKinds := [.handle], laidTests := true, laidLooks := .later }
def BarrowFewestsUptoCardSaid : Prop := Claim7.holds Tryz.pinned (.plain (OpenSpec.upto barrowFewestsSpec)) barrowFewestsUptoCard

/-- THE SECOND FORM's CARD OF 'gladstonelaw06.BarrowFewest'. -/
def barrowFewestUptoCard : Claim7 := { stood := { row := barrowFewestUptoRow, standIns := [], harness := (true, "0cbb10fac3cc5d98e611f710665526b70a35d16e2c2f95a72bce42dd64753871"), looks := true }, kinds := [], alts := [], goes := true, laidByText := true, laidKinds := [.handle], laidTests := true, laidLooks := .later }
def BarrowFewestUptoCardSaid : Prop := Claim7.holds Tryz.pinned (.plain (OpenSpec.upto barrowFewestSpec)) barrowFewestUptoCard

/-- THE SECOND FORM's CARD OF 'gladstonelaw06.BarrowAlone'. -/
def barrowAloneUptoCard : Claim7 := { stood := { row := barrowAloneUptoRow, standIns := [], harness := (true, "0cbb10fac3cc5d98e611f710665526b70a35d16e2c2f95a72bce42dd64753871"), looks := true }, kinds := [], alts := [], goes := true, laidByText := true, laidKinds := [.handle], laidTests := true, laidLooks := .later }
def BarrowAloneUptoCardSaid : Prop := Claim7.holds Tryz.pinned (.plain (OpenSpec.upto barrowAloneSpec)) barrowAloneUptoCard

/-- THE SECOND FORM's CARD OF 'gladstonelaw06.BarrowLoad'. -/
def barrowLoadUptoCard : Claim7 := { stood := { row := barrowLoadUptoRow, standIns := [], harness := (true, "0cbb10fac3cc5d98e611f710665526b70a35d16e2c2f95a72bce42dd64753871"), looks := true }, kinds := [], alts := [], goes := true, laidByText := true, laidKinds := [.handle], laidTests := true, laidLooks := .later }
def BarrowLoadUptoCardSaid : Prop := Claim7.holds Tryz.pinned (.plain (OpenSpec.upto barrowLoadSpec)) barrowLoadUptoCard

/-- THE SECOND FORM's CARD OF 'gladstonelaw06.BarrowRule'. -/
def barrowRuleUptoCard : Claim7 := { stood := { row := barrowRuleUptoRow, standIns := [], harness := (true, "0cbb10fac3cc5d98e611f710665526b70a35d16e2c2f95a72bce42dd64753871"), looks := true }, kinds := [], alts := [], goes := true, laidByText := true, laidKinds := [.handle], laidTests := true, laidLooks := .later }
def BarrowRuleUptoCardSaid : Prop := Claim7.holds Tryz.pinned (.plain (OpenSpec.upto barrowRuleSpec)) barrowRuleUptoCard

/-- THE SECOND FORM's CARD OF 'gladstonelaw06.BarrowVerdicts'. -/
def barrowVerdictsUptoCard : Claim7 := { stood := { row := barrowVerdictsUptoRow, standIns := [], harness := (true, "0cbb10fac3cc5d98e611f710665526b70a35d16e2c2f95a72bce42dd64753871"), looks := true }, kinds := [], alts := [], goes := true, laidByText := true, laidKinds := [.handle], laidTests := true, laidLooks := .later }
def BarrowVerdictsUptoCardSaid : Prop := Claim7.holds Tryz.pinned (.plain (OpenSpec.upto barrowVerdictsSpec)) barrowVerdictsUptoCard

/-- THE SECOND FORM's CARD OF 'gladstonelaw06.BarrowSlowest'. -/
def barrowSlowestUptoCard : Claim7 := { stood := { row := barrowSlowestUptoRow, standIns := [], harness := (true, "0cbb10fac3cc5d98e611f710665526b70a35d16e2c2f95a72bce42dd64753871"), looks := true }, kinds := [], alts := [], goes := true, laidByText := true, laidKinds := [.handle], laidTests := true, laidLooks := .later }
def BarrowSlowestUptoCardSaid : Prop := Claim7.holds Tryz.pinned (.plain (OpenSpec.upto barrowSlowestSpec)) barrowSlowestUptoCard

/-- THE SECOND FORM's CARD OF 'gladstonelaw06.BarrowPlans'. -/
def barrowPlansUptoCard : Claim7 := { stood := { row := barrowPlansUptoRow, standIns := [], harness := (true, "0cbb10fac3cc5d98e611f710665526b70a35d16e2c2f95a72bce42dd64753871"), looks := true }, kinds := [], alts := [], goes := true, laidByText := true, laidKinds := [.handle], laidTests := true, laidLooks := .later }
def BarrowPlansUptoCardSaid : Prop := Claim7.holds Tryz.pinned (.plain (OpenSpec.upto barrowPlansSpec)) barrowPlansUptoCard

/-- THE SECOND FORM's CARD OF 'gladstonelaw06.BarrowAll'. -/
def barrowAllUptoCard : Claim7 := { stood := { row := barrowAllUptoRow, standIns := [], harness := (true, "0cbb10fac3cc5d98e611f710665526b70a35d16e2c2f95a72bce42dd64753871"), looks := true }, kinds := [], alts := [], goes := true, laidByText := true, laidKinds := [.handle], laidTests := true, laidLooks := .later }
def BarrowAllUptoCardSaid : Prop := Claim7.holds Tryz.pinned (.plain (OpenSpec.upto barrowAllSpec)) barrowAllUptoCard

/-- THE SECOND FORM's CARD OF 'gladstonelaw06.BarrowKnown'. -/
def barrowKnownUptoCard : Claim7 := { stood := { row := barrowKnownUptoRow, standIns := [], harness := (true, "0cbb10fac3cc5d98e611f710665526b70a35d16e2c2f95a72bce42dd64753871"), looks := true }, kinds := [], alts := [], goes := true, laidByText := true, laidKinds := [.handle], laidTests := true, laidLooks := .later }
def BarrowKnownUptoCardSaid : Prop := Claim7.holds Tryz.pinned (.plain (OpenSpec.upto barrowKnownSpec)) barrowKnownUptoCard
end Rows
end Go.Proofs.YtofmadjgbcopdaaGreatDoor
