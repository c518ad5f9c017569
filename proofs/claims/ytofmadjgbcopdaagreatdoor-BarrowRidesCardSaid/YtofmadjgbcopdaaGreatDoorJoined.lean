/- For every list of numbers BarrowRides returns true and leaves the list as it was; the variable errors.errorType of the library is taken to hold what the text of the program lays in it. -/
import Derived.Test.YtofmadjgbcopdaaGreatDoorJ11
import Derived.Test.YtofmadjgbcopdaaGreatDoorCards
import Derived.Test.YtofmadjgbcopdaaGreatDoorTie
import Derived.Test.YtofmadjgbcopdaaGreatDoorAFactM
import Derived.Test.YtofmadjgbcopdaaGreatDoorAFactL
set_option linter.defProp false
set_option linter.unusedSimpArgs false
set_option linter.unusedVariables false
set_option maxRecDepth 100000
namespace Go.Proofs.YtofmadjgbcopdaaGreatDoor
open Go
theorem cGoes : true = Rows.barrowRidesRow.goesBy Tryz.prog := by kernel_rfl
theorem cNamed : Tryz.prog.funcNamed "gladstone/gladstonelaw06.BarrowRides" = some 5 := by kernel_rfl
theorem cWf : Rows.barrowRidesRow.wfByText (OpenSpec.ofChange Rows.barrowRidesSpec) = true := by kernel_rfl
theorem barrowRides_card : Rows.BarrowRidesCardSaid :=
 holds_goes .later [.handle] true (true, "0cbb10fac3cc5d98e611f710665526b70a35d16e2c2f95a72bce42dd64753871") true barrowRides_said cWf barrowRides_row_tie rfl ⟨rfl, rfl⟩ factMain rfl
  (fun f fn hf hfn => by
   obtain rfl : f = 5 := (Option.some.inj (cNamed.symm.trans hf)).symm
   obtain rfl : fn = Tryz.f5 := (Option.some.inj (Tryz.func5.symm.trans hfn)).symm
   exact ⟨factLooks, fun j t ht => by
    rw [Tryz.params5] at ht
    have h3 : t = 22 := by
     rcases j with _ | j
     ·simpa using ht.symm
     ·simp at ht
    subst h3
    exact factStand⟩)
  cGoes
#print axioms barrowRides_card
end Go.Proofs.YtofmadjgbcopdaaGreatDoor
