/- SmellLonger holds at every list of numbers. -/
import Derived.Test.YtohojnlmjbbkpaaGreatDoorJ26
import Derived.Test.YtohojnlmjbbkpaaGreatDoorCards
import Derived.Test.YtohojnlmjbbkpaaGreatDoorTie
import Derived.Test.YtohojnlmjbbkpaaGreatDoorAFactSM
import Derived.Test.YtohojnlmjbbkpaaGreatDoorAFactL
set_option linter.defProp false
set_option linter.unusedSimpArgs false
set_option linter.unusedVariables false
set_option maxRecDepth 100000
namespace Go.Proofs.YtohojnlmjbbkpaaGreatDoor
open Go
theorem cGoes : true = Rows.smellLongerRow.goesBy Tryz.prog := by kernel_rfl
theorem cNamed : Tryz.prog.funcNamed "gladstone/gladstonelaw09.SmellLonger" = some 16 := by kernel_rfl
theorem cWf : Rows.smellLongerRow.wfByText (OpenSpec.ofChange Rows.smellLongerSpec) = true := by kernel_rfl
theorem smellLonger_card : Rows.SmellLongerCardSaid :=
 holds_goes .later [.handle] true (true, "c65935e0ffe5db02ed7b382706e1ab1f8419c2cfffd8e896179f5e5685e8772d") true smellLonger_said cWf smellLonger_row_tie rfl ⟨rfl, rfl⟩ factMain rfl
  (fun f fn hf hfn => by
   obtain rfl : f = 16 := (Option.some.inj (cNamed.symm.trans hf)).symm
   obtain rfl : fn = Tryz.f16 := (Option.some.inj (Tryz.func16.symm.trans hfn)).symm
   exact ⟨factLooks, fun j t ht => by
    rw [Tryz.params16] at ht
    have h3 : t = 23 := by
     rcases j with _ | j
     ·simpa using ht.symm
     ·simp at ht
    subst h3
    exact factStand⟩)
  cGoes
#print axioms smellLonger_card
end Go.Proofs.YtohojnlmjbbkpaaGreatDoor
