/- SmellKnown: the examples of the chapter have their results. -/
import Derived.Test.YtnfnaehonkbknaaGreatDoorJ26
import Derived.Test.YtnfnaehonkbknaaGreatDoorCards
import Derived.Test.YtnfnaehonkbknaaGreatDoorTie
import Derived.Test.YtnfnaehonkbknaaGreatDoorAFactSM
import Derived.Test.YtnfnaehonkbknaaGreatDoorAFactL
set_option linter.defProp false
set_option linter.unusedSimpArgs false
set_option linter.unusedVariables false
set_option maxRecDepth 100000
namespace Go.Proofs.YtnfnaehonkbknaaGreatDoor
open Go Go.Proofs.Tryz
theorem cGoes : true = Rows.smellKnownRow.goesBy Tryz.prog := by kernel_rfl
theorem cNamed : Tryz.prog.funcNamed "gladstone/gladstonelaw09.SmellKnown" = some 6 := by kernel_rfl
theorem cWf : Rows.smellKnownRow.wfByText (OpenSpec.ofChange Rows.smellKnownSpec) = true := by kernel_rfl
theorem smellKnown_card : Rows.SmellKnownCardSaid :=
 holds_goes .later [.handle] true (true, "2852e31d5adcd91408d247945665a6cdaac13ffbe27df01981c663c4cc0b8480") true smellKnown_said cWf smellKnown_row_tie rfl ⟨rfl, rfl⟩ factMain rfl
  (fun f fn hf hfn => by
   obtain rfl : f = 6 := (Option.some.inj (cNamed.symm.trans hf)).symm
   obtain rfl : fn = Tryz.f6 := (Option.some.inj (func6.symm.trans hfn)).symm
   exact ⟨factLooks, fun j t ht => by
    rw [params6] at ht
    simp at ht⟩)
  cGoes
#print axioms smellKnown_card
end Go.Proofs.YtnfnaehonkbknaaGreatDoor
