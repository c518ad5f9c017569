/- SmellMixed: if places have other numbers, there are as many suspicions, of the same hampers, since the same hours, and the smell comes as late. -/
import Derived.Test.YtkenloilljeliaaGreatDoorJ26
import Derived.Test.YtkenloilljeliaaGreatDoorCards
import Derived.Test.YtkenloilljeliaaGreatDoorTie
import Derived.Test.YtkenloilljeliaaGreatDoorAFactSM
import Derived.Test.YtkenloilljeliaaGreatDoorAFactL
set_option linter.defProp false
set_option linter.unusedSimpArgs false
set_option linter.unusedVariables false
set_option maxRecDepth 100000
namespace Go.Proofs.YtkenloilljeliaaGreatDoor
open Go
theorem cGoes : true = Rows.smellMixedRow.goesBy Tryz.prog := by kernel_rfl
theorem cNamed : Tryz.prog.funcNamed "gladstone/gladstonelaw09.SmellMixed" = some 6 := by kernel_rfl
theorem cWf : Rows.smellMixedRow.wfByText (OpenSpec.ofChange Rows.smellMixedSpec) = true := by kernel_rfl
theorem smellMixed_card : Rows.SmellMixedCardSaid :=
 holds_goes .later [.handle] true (true, "ea0ece1640afb468f9ee9798b58dba132f857a1c6dec74cce639003bdd8b0c32") true smellMixed_said cWf smellMixed_row_tie rfl ⟨rfl, rfl⟩ factMain rfl
  (fun f fn hf hfn => by
   obtain rfl : f = 6 := (Option.some.inj (cNamed.symm.trans hf)).symm
   obtain rfl : fn = Tryz.f6 := (Option.some.inj (Tryz.func6.symm.trans hfn)).symm
   exact ⟨factLooks, fun j t ht => by
    rw [Tryz.params6] at ht
    have h3 : t = 22 := by
     rcases j with _ | j
     ·simpa using ht.symm
     ·simp at ht
    subst h3
    exact factStand⟩)
  cGoes
#print axioms smellMixed_card
end Go.Proofs.YtkenloilljeliaaGreatDoor
