/- SmellSafe: a place is safe until just before the least hour of Comes, and it smells there surely from the greatest on, if the smell always comes. -/
import Derived.Test.YtnfnaehonkbknaaGreatDoorJ25
import Derived.Test.YtnfnaehonkbknaaGreatDoorCards
import Derived.Test.YtnfnaehonkbknaaGreatDoorTie
import Derived.Test.YtnfnaehonkbknaaGreatDoorAFactSM
import Derived.Test.YtnfnaehonkbknaaGreatDoorAFactL
set_option linter.defProp false
set_option linter.unusedSimpArgs false
set_option linter.unusedVariables false
set_option maxRecDepth 100000
namespace Go.Proofs.YtnfnaehonkbknaaGreatDoor
open Go
theorem cGoes : true = Rows.smellSafeRow.goesBy Tryz.prog := by kernel_rfl
theorem cNamed : Tryz.prog.funcNamed "gladstone/gladstonelaw09.SmellSafe" = some 3 := by kernel_rfl
theorem cWf : Rows.smellSafeRow.wfByText (OpenSpec.ofChange Rows.smellSafeSpec) = true := by kernel_rfl
theorem smellSafe_card : Rows.SmellSafeCardSaid :=
 holds_goes .later [.handle] true (true, "2852e31d5adcd91408d247945665a6cdaac13ffbe27df01981c663c4cc0b8480") true smellSafe_said cWf smellSafe_row_tie rfl ⟨rfl, rfl⟩ factMain rfl
  (fun f fn hf hfn => by
   obtain rfl : f = 3 := (Option.some.inj (cNamed.symm.trans hf)).symm
   obtain rfl : fn = Tryz.f3 := (Option.some.inj (Tryz.func3.symm.trans hfn)).symm
   exact ⟨factLooks, fun j t ht => by
    rw [Tryz.params3] at ht
    have h3 : t = 22 := by
     rcases j with _ | j
     ·simpa using ht.symm
     ·simp at ht
    subst h3
    exact factStand⟩)
  cGoes
#print axioms smellSafe_card
end Go.Proofs.YtnfnaehonkbknaaGreatDoor
