/- SmellLater: if all noses are later by as much, and some nose smelled something, there are as many suspicions, or more, and none of the suspects is lost. -/
import Derived.Test.YtkenloilljeliaaGreatDoorJ26
import Derived.Test.YtkenloilljeliaaGreatDoorCards
import Derived.Test.YtkenloilljeliaaGreatDoorTie
import Derived.Test.YtkenloilljeliaaGreatDoorAFactSM
import Derived.Test.YtkenloilljeliaaGreatDoorAFactL
set_option linter.defProp false
set_option linter.unusedSimpArgs false
set_option linter.unusedVariables false
set_option maxRecDepth 100000
namespace Go.Proofs.YtkenloilljeliaaGreatDoor
open Go
theorem cGoes : true = Rows.smellLaterRow.goesBy Tryz.prog := by kernel_rfl
theorem cNamed : Tryz.prog.funcNamed "gladstone/gladstonelaw09.SmellLater" = some 5 := by kernel_rfl
theorem cWf : Rows.smellLaterRow.wfByText (OpenSpec.ofChange Rows.smellLaterSpec) = true := by kernel_rfl
theorem smellLater_card : Rows.SmellLaterCardSaid :=
 holds_goes .later [.handle] true (true, "ea0ece1640afb468f9ee9798b58dba132f857a1c6dec74cce639003bdd8b0c32") true smellLater_said cWf smellLater_row_tie rfl ⟨rfl, rfl⟩ factMain rfl
  (fun f fn hf hfn => by
   obtain rfl : f = 5 := (Option.some.inj (cNamed.symm.trans hf)).symm
   obtain rfl : fn = Tryz.f5 := (Option.some.inj (Tryz.func5.symm.trans hfn)).symm
   exact ⟨factLooks, fun j t ht => by
    rw [Tryz.params5] at ht
    have h3 : t = 22 := by
     rcases j with _ | j
     ·simpa using ht.symm
     ·simp at ht
    subst h3
    exact factStand⟩)
  cGoes
#print axioms smellLater_card
end Go.Proofs.YtkenloilljeliaaGreatDoor
