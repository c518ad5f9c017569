/- SmellReach: Reach is the same both ways, not longer than over any third place, at most what one door takes, and 0 just for a place and itself; with a door more it is not longer. -/
import Derived.Test.YtkcomnkgdifboaaGreatDoorJ25
import Derived.Test.YtkcomnkgdifboaaGreatDoorCards
import Derived.Test.YtkcomnkgdifboaaGreatDoorTie
import Derived.Test.YtkcomnkgdifboaaGreatDoorAFactSM
import Derived.Test.YtkcomnkgdifboaaGreatDoorAFactL
set_option linter.defProp false
set_option linter.unusedSimpArgs false
set_option linter.unusedVariables false
set_option maxRecDepth 100000
namespace Go.Proofs.YtkcomnkgdifboaaGreatDoor
open Go
theorem cGoes : true = Rows.smellReachRow.goesBy Tryz.prog := by kernel_rfl
theorem cNamed : Tryz.prog.funcNamed "gladstone/gladstonelaw09.SmellReach" = some 3 := by kernel_rfl
theorem cWf : Rows.smellReachRow.wfByText (OpenSpec.ofChange Rows.smellReachSpec) = true := by kernel_rfl
theorem smellReach_card : Rows.SmellReachCardSaid :=
 holds_goes .later [.handle] true (true, "feea252cce32e8988ba24d40c24fd31b7e0f3d2afcb5f74402150db0789647f1") true smellReach_said cWf smellReach_row_tie rfl ⟨rfl, rfl⟩ factMain rfl
  (fun f fn hf hfn => by
   obtain rfl : f = 3 := (Option.some.inj (cNamed.symm.trans hf)).symm
   obtain rfl : fn = Tryz.f3 := (Option.some.inj (Tryz.func3.symm.trans hfn)).symm
   exact ⟨factLooks, fun j t ht => by
    rw [Tryz.params3] at ht
    have h3 : t = 22 := by
     rcases j with _ | j
     ·simpa using ht.symm
     ·simp at ht
    subst h3
    exact factStand⟩)
  cGoes
#print axioms smellReach_card
end Go.Proofs.YtkcomnkgdifboaaGreatDoor
