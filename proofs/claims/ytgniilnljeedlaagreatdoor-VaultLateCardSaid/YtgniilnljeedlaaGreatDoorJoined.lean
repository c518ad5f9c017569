/- for every list of numbers the law returns true and leaves what it was given as it was: without rules the office closes over calls in time with the fewest fetches, and what is kept is gone last -/
import Derived.Test.YtgniilnljeedlaaGreatDoorJ25
import Derived.Test.YtgniilnljeedlaaGreatDoorCards
import Derived.Test.YtgniilnljeedlaaGreatDoorTie
import Derived.Test.YtgniilnljeedlaaGreatDoorAFactVM
import Derived.Test.YtgniilnljeedlaaGreatDoorAFactL
set_option linter.defProp false
set_option linter.unusedSimpArgs false
set_option linter.unusedVariables false
set_option maxRecDepth 100000
namespace Go.Proofs.YtgniilnljeedlaaGreatDoor
open Go
theorem cGoes : true = Rows.vaultLateRow.goesBy Tryz.prog := by kernel_rfl
theorem cNamed : Tryz.prog.funcNamed "gladstone/gladstonelaw05.VaultLate" = some 6 := by kernel_rfl
theorem cWf : Rows.vaultLateRow.wfByText (OpenSpec.ofChange Rows.vaultLateSpec) = true := by kernel_rfl
theorem vaultLate_card : Rows.VaultLateCardSaid :=
 holds_goes .later [.handle] true (true, "d32cad7b5752cd6ac23a3449ca69d84f08b40200f08d5a4c3cfdbc50ae51ca56") true vaultLate_said cWf vaultLate_row_tie rfl ⟨rfl, rfl⟩ factMain rfl
  (fun f fn hf hfn => by
   obtain rfl : f = 6 := (Option.some.inj (cNamed.symm.trans hf)).symm
   obtain rfl : fn = Tryz.f6 := (Option.some.inj (Tryz.func6.symm.trans hfn)).symm
   exact ⟨factLooks, fun j t ht => by
    rw [Tryz.params6] at ht
    have h3 : t = 22 := by
     rcases j with _ | j
     ·simpa using ht.symm
     ·simp at ht
    subst h3
    exact factStand⟩)
  cGoes
#print axioms vaultLate_card
end Go.Proofs.YtgniilnljeedlaaGreatDoor
