/- SmellWrong answers yes, whatever the numbers are. -/
import Derived.Test.YtkenloilljeliaaGreatDoorJ24
import Derived.Test.YtkenloilljeliaaGreatDoorCards
import Derived.Test.YtkenloilljeliaaGreatDoorTie
import Derived.Test.YtkenloilljeliaaGreatDoorAFactSM
import Derived.Test.YtkenloilljeliaaGreatDoorAFactL
set_option linter.defProp false
set_option linter.unusedSimpArgs false
set_option linter.unusedVariables false
set_option maxRecDepth 100000
namespace Go.Proofs.YtkenloilljeliaaGreatDoor
open Go
theorem cGoes : true = Rows.smellWrongRow.goesBy Tryz.prog := by kernel_rfl
theorem cNamed : Tryz.prog.funcNamed "gladstone/gladstonelaw09.SmellWrong" = some 3 := by kernel_rfl
theorem cWf : Rows.smellWrongRow.wfByText (OpenSpec.ofChange Rows.smellWrongSpec) = true := by kernel_rfl
theorem smellWrong_card : Rows.SmellWrongCardSaid :=
 holds_goes .later [.handle] true (true, "ea0ece1640afb468f9ee9798b58dba132f857a1c6dec74cce639003bdd8b0c32") true smellWrong_said cWf smellWrong_row_tie rfl ⟨rfl, rfl⟩ factMain rfl
  (fun f fn hf hfn => by
   obtain rfl : f = 3 := (Option.some.inj (cNamed.symm.trans hf)).symm
   obtain rfl : fn = Tryz.f3 := (Option.some.inj (Tryz.func3.symm.trans hfn)).symm
   exact ⟨factLooks, fun j t ht => by
    rw [Tryz.params3] at ht
    have h3 : t = 22 := by
     rcases j with _ | j
     ·simpa using ht.symm
     ·simp at ht
    subst h3
    exact factStand⟩)
  cGoes
#print axioms smellWrong_card
end Go.Proofs.YtkenloilljeliaaGreatDoor
