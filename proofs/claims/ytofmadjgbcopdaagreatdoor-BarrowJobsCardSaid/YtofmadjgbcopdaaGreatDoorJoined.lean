/- For every list of numbers BarrowJobs returns true and leaves what it was given as it was; what the library's variable errors.errorType holds as the call begins is tied to the program's text. -/
import Derived.Test.YtofmadjgbcopdaaGreatDoorJ11
import Derived.Test.YtofmadjgbcopdaaGreatDoorCards
import Derived.Test.YtofmadjgbcopdaaGreatDoorTie
import Derived.Test.YtofmadjgbcopdaaGreatDoorAFactM
import Derived.Test.YtofmadjgbcopdaaGreatDoorAFactL
set_option maxRecDepth 100000
namespace Go.Proofs.YtofmadjgbcopdaaGreatDoor
open Go
theorem cGoes : true = Rows.barrowJobsRow.goesBy Tryz.prog := by kernel_rfl
theorem cNamed : Tryz.prog.funcNamed "gladstone/gladstonelaw06.BarrowJobs" = some 4 := by kernel_rfl
theorem cWf : Rows.barrowJobsRow.wfByText (OpenSpec.ofChange Rows.barrowJobsSpec) = true := by kernel_rfl
theorem barrowJobs_card : Rows.BarrowJobsCardSaid :=
  holds_goes .later [.handle] true (true, "0cbb10fac3cc5d98e611f710665526b70a35d16e2c2f95a72bce42dd64753871") true barrowJobs_said cWf barrowJobs_row_tie rfl ⟨rfl, rfl⟩ factMain rfl
    (fun f fn hf hfn => by
      obtain rfl : f = 4 := (Option.some.inj (cNamed.symm.trans hf)).symm
      obtain rfl : fn = Tryz.f4 := (Option.some.inj (Tryz.func4.symm.trans hfn)).symm
      exact ⟨factLooks, fun j t ht => by
        rw [Tryz.params4] at ht
        have h3 : t = 22 := by
          rcases j with _ | j
          · simpa using ht.symm
          · simp at ht
        subst h3
        exact factStand⟩)
    cGoes
#print axioms barrowJobs_card
end Go.Proofs.YtofmadjgbcopdaaGreatDoor
