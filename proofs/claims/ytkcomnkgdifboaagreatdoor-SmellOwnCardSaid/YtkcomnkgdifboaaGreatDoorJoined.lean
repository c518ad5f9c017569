/- SmellOwn: if it is smelled at the place of a hamper that no door leads to, it is this one, since this hour at the latest, and it never smells anywhere else. -/
import Derived.Test.YtkcomnkgdifboaaGreatDoorJ26
import Derived.Test.YtkcomnkgdifboaaGreatDoorCards
import Derived.Test.YtkcomnkgdifboaaGreatDoorTie
import Derived.Test.YtkcomnkgdifboaaGreatDoorAFactSM
import Derived.Test.YtkcomnkgdifboaaGreatDoorAFactL
set_option linter.defProp false
set_option linter.unusedSimpArgs false
set_option linter.unusedVariables false
set_option maxRecDepth 100000
namespace Go.Proofs.YtkcomnkgdifboaaGreatDoor
open Go
theorem cGoes : true = Rows.smellOwnRow.goesBy Tryz.prog := by kernel_rfl
theorem cNamed : Tryz.prog.funcNamed "gladstone/gladstonelaw09.SmellOwn" = some 8 := by kernel_rfl
theorem cWf : Rows.smellOwnRow.wfByText (OpenSpec.ofChange Rows.smellOwnSpec) = true := by kernel_rfl
theorem smellOwn_card : Rows.SmellOwnCardSaid :=
 holds_goes .later [.handle] true (true, "feea252cce32e8988ba24d40c24fd31b7e0f3d2afcb5f74402150db0789647f1") true smellOwn_said cWf smellOwn_row_tie rfl ⟨rfl, rfl⟩ factMain rfl
  (fun f fn hf hfn => by
   obtain rfl : f = 8 := (Option.some.inj (cNamed.symm.trans hf)).symm
   obtain rfl : fn = Tryz.f8 := (Option.some.inj (Tryz.func8.symm.trans hfn)).symm
   exact ⟨factLooks, fun j t ht => by
    rw [Tryz.params8] at ht
    have h3 : t = 22 := by
     rcases j with _ | j
     ·simpa using ht.symm
     ·simp at ht
    subst h3
    exact factStand⟩)
  cGoes
#print axioms smellOwn_card
end Go.Proofs.YtkcomnkgdifboaaGreatDoor
