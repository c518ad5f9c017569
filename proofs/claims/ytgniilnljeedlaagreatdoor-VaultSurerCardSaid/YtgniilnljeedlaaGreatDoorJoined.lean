/- for every list of numbers the law returns true and leaves what it was given as it was: if more is known of the calls, Fetches and Fewest are not wider, and no regret is greater -/
import Derived.Test.YtgniilnljeedlaaGreatDoorJ24
import Derived.Test.YtgniilnljeedlaaGreatDoorCards
import Derived.Test.YtgniilnljeedlaaGreatDoorTie
import Derived.Test.YtgniilnljeedlaaGreatDoorAFactVM
import Derived.Test.YtgniilnljeedlaaGreatDoorAFactL
set_option linter.defProp false
set_option linter.unusedSimpArgs false
set_option linter.unusedVariables false
set_option maxRecDepth 100000
namespace Go.Proofs.YtgniilnljeedlaaGreatDoor
open Go
theorem cGoes : true = Rows.vaultSurerRow.goesBy Tryz.prog := by kernel_rfl
theorem cNamed : Tryz.prog.funcNamed "gladstone/gladstonelaw05.VaultSurer" = some 17 := by kernel_rfl
theorem cWf : Rows.vaultSurerRow.wfByText (OpenSpec.ofChange Rows.vaultSurerSpec) = true := by kernel_rfl
theorem vaultSurer_card : Rows.VaultSurerCardSaid :=
 holds_goes .later [.handle] true (true, "d32cad7b5752cd6ac23a3449ca69d84f08b40200f08d5a4c3cfdbc50ae51ca56") true vaultSurer_said cWf vaultSurer_row_tie rfl ⟨rfl, rfl⟩ factMain rfl
  (fun f fn hf hfn => by
   obtain rfl : f = 17 := (Option.some.inj (cNamed.symm.trans hf)).symm
   obtain rfl : fn = Tryz.f17 := (Option.some.inj (Tryz.func17.symm.trans hfn)).symm
   exact ⟨factLooks, fun j t ht => by
    rw [Tryz.params17] at ht
    have h3 : t = 22 := by
     rcases j with _ | j
     ·simpa using ht.symm
     ·simp at ht
    subst h3
    exact factStand⟩)
  cGoes
#print axioms vaultSurer_card
end Go.Proofs.YtgniilnljeedlaaGreatDoor
