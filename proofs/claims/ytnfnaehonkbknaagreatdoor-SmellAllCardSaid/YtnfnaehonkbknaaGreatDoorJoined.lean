/- SmellAll: Count, Suspects, Since, Verdict, Surely, Comes and First are what all truths say. -/
import Derived.Test.YtnfnaehonkbknaaGreatDoorJ25
import Derived.Test.YtnfnaehonkbknaaGreatDoorCards
import Derived.Test.YtnfnaehonkbknaaGreatDoorTie
import Derived.Test.YtnfnaehonkbknaaGreatDoorAFactSM
import Derived.Test.YtnfnaehonkbknaaGreatDoorAFactL
set_option linter.defProp false
set_option linter.unusedSimpArgs false
set_option linter.unusedVariables false
set_option maxRecDepth 100000
namespace Go.Proofs.YtnfnaehonkbknaaGreatDoor
open Go Go.Proofs.Tryz
theorem cGoes : true = Rows.smellAllRow.goesBy Tryz.prog := by kernel_rfl
theorem cNamed : Tryz.prog.funcNamed "gladstone/gladstonelaw09.SmellAll" = some 5 := by kernel_rfl
theorem cWf : Rows.smellAllRow.wfByText (OpenSpec.ofChange Rows.smellAllSpec) = true := by kernel_rfl
theorem smellAll_card : Rows.SmellAllCardSaid :=
 holds_goes .later [.handle] true (true, "2852e31d5adcd91408d247945665a6cdaac13ffbe27df01981c663c4cc0b8480") true smellAll_said cWf smellAll_row_tie rfl ⟨rfl, rfl⟩ factMain rfl
  (fun f fn hf hfn => by
   obtain rfl : f = 5 := (Option.some.inj (cNamed.symm.trans hf)).symm
   obtain rfl : fn = Tryz.f5 := (Option.some.inj (func5.symm.trans hfn)).symm
   exact ⟨factLooks, fun j t ht => by
    rw [params5] at ht
    have h3 : t = 22 := by
     rcases j with _ | j
     ·simpa using ht.symm
     ·simp at ht
    subst h3
    exact factStand⟩)
  cGoes
#print axioms smellAll_card
end Go.Proofs.YtnfnaehonkbknaaGreatDoor
