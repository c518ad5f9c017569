/- SmellNose: with a nose more there are not more suspicions, what was sure stays sure, no place is less safe, and Add refuses just what leaves no truth. -/
import Derived.Test.YtnfnaehonkbknaaGreatDoorJ26
import Derived.Test.YtnfnaehonkbknaaGreatDoorCards
import Derived.Test.YtnfnaehonkbknaaGreatDoorTie
import Derived.Test.YtnfnaehonkbknaaGreatDoorAFactSM
import Derived.Test.YtnfnaehonkbknaaGreatDoorAFactL
set_option linter.defProp false
set_option linter.unusedSimpArgs false
set_option linter.unusedVariables false
set_option maxRecDepth 100000
namespace Go.Proofs.YtnfnaehonkbknaaGreatDoor
open Go
theorem cGoes : true = Rows.smellNoseRow.goesBy Tryz.prog := by kernel_rfl
theorem cNamed : Tryz.prog.funcNamed "gladstone/gladstonelaw09.SmellNose" = some 4 := by kernel_rfl
theorem cWf : Rows.smellNoseRow.wfByText (OpenSpec.ofChange Rows.smellNoseSpec) = true := by kernel_rfl
theorem smellNose_card : Rows.SmellNoseCardSaid :=
 holds_goes .later [.handle] true (true, "2852e31d5adcd91408d247945665a6cdaac13ffbe27df01981c663c4cc0b8480") true smellNose_said cWf smellNose_row_tie rfl ⟨rfl, rfl⟩ factMain rfl
  (fun f fn hf hfn => by
   obtain rfl : f = 4 := (Option.some.inj (cNamed.symm.trans hf)).symm
   obtain rfl : fn = Tryz.f4 := (Option.some.inj (Tryz.func4.symm.trans hfn)).symm
   exact ⟨factLooks, fun j t ht => by
    rw [Tryz.params4] at ht
    have h3 : t = 22 := by
     rcases j with _ | j
     ·simpa using ht.symm
     ·simp at ht
    subst h3
    exact factStand⟩)
  cGoes
#print axioms smellNose_card
end Go.Proofs.YtnfnaehonkbknaaGreatDoor
