/- For every list of numbers BarrowSlowest returns true and leaves the list as it was; the variable errors.errorType of the library is taken to hold what the text of the program lays in it. -/
import Derived.Test.YtofmadjgbcopdaaGreatDoorJ11
import Derived.Test.YtofmadjgbcopdaaGreatDoorCards
import Derived.Test.YtofmadjgbcopdaaGreatDoorTie
import Derived.Test.YtofmadjgbcopdaaGreatDoorAFactM
import Derived.Test.YtofmadjgbcopdaaGreatDoorAFactL
set_option linter.defProp false
set_option linter.unusedSimpArgs false
set_option linter.unusedVariables false
set_option maxRecDepth 100000
namespace Go.Proofs.YtofmadjgbcopdaaGreatDoor
open Go
theorem cGoes : true = Rows.barrowSlowestRow.goesBy Tryz.prog := by kernel_rfl
theorem cNamed : Tryz.prog.funcNamed "gladstone/gladstonelaw06.BarrowSlowest" = some 15 := by kernel_rfl
theorem cWf : Rows.barrowSlowestRow.wfByText (OpenSpec.ofChange Rows.barrowSlowestSpec) = true := by kernel_rfl
theorem barrowSlowest_card : Rows.BarrowSlowestCardSaid :=
 holds_goes .later [.handle] true (true, "0cbb10fac3cc5d98e611f710665526b70a35d16e2c2f95a72bce42dd64753871") true barrowSlowest_said cWf barrowSlowest_row_tie rfl ⟨rfl, rfl⟩ factMain rfl
  (fun f fn hf hfn => by
   obtain rfl : f = 15 := (Option.some.inj (cNamed.symm.trans hf)).symm
   obtain rfl : fn = Tryz.f15 := (Option.some.inj (Tryz.func15.symm.trans hfn)).symm
   exact ⟨factLooks, fun j t ht => by
    rw [Tryz.params15] at ht
    have h3 : t = 22 := by
     rcases j with _ | j
     ·simpa using ht.symm
     ·simp at ht
    subst h3
    exact factStand⟩)
  cGoes
#print axioms barrowSlowest_card
end Go.Proofs.YtofmadjgbcopdaaGreatDoor
