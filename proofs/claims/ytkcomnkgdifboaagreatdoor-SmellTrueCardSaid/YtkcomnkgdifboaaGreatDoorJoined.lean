/- SmellTrue holds at every list of numbers. -/
import Derived.Test.YtkcomnkgdifboaaGreatDoorJ26
import Derived.Test.YtkcomnkgdifboaaGreatDoorCards
import Derived.Test.YtkcomnkgdifboaaGreatDoorTie
import Derived.Test.YtkcomnkgdifboaaGreatDoorAFactSM
import Derived.Test.YtkcomnkgdifboaaGreatDoorAFactL
set_option linter.defProp false
set_option linter.unusedSimpArgs false
set_option linter.unusedVariables false
set_option maxRecDepth 100000
namespace Go.Proofs.YtkcomnkgdifboaaGreatDoor
open Go
theorem cGoes : true = Rows.smellTrueRow.goesBy Tryz.prog := by kernel_rfl
theorem cNamed : Tryz.prog.funcNamed "gladstone/gladstonelaw09.SmellTrue" = some 7 := by kernel_rfl
theorem cWf : Rows.smellTrueRow.wfByText (OpenSpec.ofChange Rows.smellTrueSpec) = true := by kernel_rfl
theorem smellTrue_card : Rows.SmellTrueCardSaid :=
 holds_goes .later [.handle] true (true, "feea252cce32e8988ba24d40c24fd31b7e0f3d2afcb5f74402150db0789647f1") true smellTrue_said cWf smellTrue_row_tie rfl ⟨rfl, rfl⟩ factMain rfl
  (fun f fn hf hfn => by
   obtain rfl : f = 7 := (Option.some.inj (cNamed.symm.trans hf)).symm
   obtain rfl : fn = Tryz.f7 := (Option.some.inj (Tryz.func7.symm.trans hfn)).symm
   exact ⟨factLooks, fun j t ht => by
    rw [Tryz.params7] at ht
    have h3 : t = 22 := by
     rcases j with _ | j
     ·simpa using ht.symm
     ·simp at ht
    subst h3
    exact factStand⟩)
  cGoes
#print axioms smellTrue_card
end Go.Proofs.YtkcomnkgdifboaaGreatDoor
