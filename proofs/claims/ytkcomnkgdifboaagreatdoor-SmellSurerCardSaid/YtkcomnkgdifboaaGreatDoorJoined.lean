/- SmellSurer: if a door's band is narrower, there are not more suspicions, and Reach is not wider. -/
import Derived.Test.YtkcomnkgdifboaaGreatDoorJ25
import Derived.Test.YtkcomnkgdifboaaGreatDoorCards
import Derived.Test.YtkcomnkgdifboaaGreatDoorTie
import Derived.Test.YtkcomnkgdifboaaGreatDoorAFactSM
import Derived.Test.YtkcomnkgdifboaaGreatDoorAFactL
set_option linter.defProp false
set_option linter.unusedSimpArgs false
set_option linter.unusedVariables false
set_option maxRecDepth 100000
namespace Go.Proofs.YtkcomnkgdifboaaGreatDoor
open Go
theorem cGoes : true = Rows.smellSurerRow.goesBy Tryz.prog := by kernel_rfl
theorem cNamed : Tryz.prog.funcNamed "gladstone/gladstonelaw09.SmellSurer" = some 5 := by kernel_rfl
theorem cWf : Rows.smellSurerRow.wfByText (OpenSpec.ofChange Rows.smellSurerSpec) = true := by kernel_rfl
theorem smellSurer_card : Rows.SmellSurerCardSaid :=
 holds_goes .later [.handle] true (true, "feea252cce32e8988ba24d40c24fd31b7e0f3d2afcb5f74402150db0789647f1") true smellSurer_said cWf smellSurer_row_tie rfl ⟨rfl, rfl⟩ factMain rfl
  (fun f fn hf hfn => by
   obtain rfl : f = 5 := (Option.some.inj (cNamed.symm.trans hf)).symm
   obtain rfl : fn = Tryz.f5 := (Option.some.inj (Tryz.func5.symm.trans hfn)).symm
   exact ⟨factLooks, fun j t ht => by
    rw [Tryz.params5] at ht
    have h3 : t = 22 := by
     rcases j with _ | j
     ·simpa using ht.symm
     ·simp at ht
    subst h3
    exact factStand⟩)
  cGoes
#print axioms smellSurer_card
end Go.Proofs.YtkcomnkgdifboaaGreatDoor
