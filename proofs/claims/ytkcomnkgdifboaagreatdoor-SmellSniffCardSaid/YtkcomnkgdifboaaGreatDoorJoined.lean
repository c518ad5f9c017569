/- SmellSniff: whatever is smelled at the place of Sniff, at most as many suspicions are left as it says; no other place is better, and none before it as good. -/
import Derived.Test.YtkcomnkgdifboaaGreatDoorJ26
import Derived.Test.YtkcomnkgdifboaaGreatDoorCards
import Derived.Test.YtkcomnkgdifboaaGreatDoorTie
import Derived.Test.YtkcomnkgdifboaaGreatDoorAFactSM
import Derived.Test.YtkcomnkgdifboaaGreatDoorAFactL
set_option linter.defProp false
set_option linter.unusedSimpArgs false
set_option linter.unusedVariables false
set_option maxRecDepth 100000
namespace Go.Proofs.YtkcomnkgdifboaaGreatDoor
open Go
theorem cGoes : true = Rows.smellSniffRow.goesBy Tryz.prog := by kernel_rfl
theorem cNamed : Tryz.prog.funcNamed "gladstone/gladstonelaw09.SmellSniff" = some 4 := by kernel_rfl
theorem cWf : Rows.smellSniffRow.wfByText (OpenSpec.ofChange Rows.smellSniffSpec) = true := by kernel_rfl
theorem smellSniff_card : Rows.SmellSniffCardSaid :=
 holds_goes .later [.handle] true (true, "feea252cce32e8988ba24d40c24fd31b7e0f3d2afcb5f74402150db0789647f1") true smellSniff_said cWf smellSniff_row_tie rfl ⟨rfl, rfl⟩ factMain rfl
  (fun f fn hf hfn => by
   obtain rfl : f = 4 := (Option.some.inj (cNamed.symm.trans hf)).symm
   obtain rfl : fn = Tryz.f4 := (Option.some.inj (Tryz.func4.symm.trans hfn)).symm
   exact ⟨factLooks, fun j t ht => by
    rw [Tryz.params4] at ht
    have h3 : t = 22 := by
     rcases j with _ | j
     ·simpa using ht.symm
     ·simp at ht
    subst h3
    exact factStand⟩)
  cGoes
#print axioms smellSniff_card
end Go.Proofs.YtkcomnkgdifboaaGreatDoor
