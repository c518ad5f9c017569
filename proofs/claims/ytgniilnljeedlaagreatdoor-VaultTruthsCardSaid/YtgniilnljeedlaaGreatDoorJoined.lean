/- there are as many truths as Truths says, in each of them a rule fetches within Fetches and the best choices within Fewest, and both ends happen -/
import Derived.Test.YtgniilnljeedlaaGreatDoorJ25
import Derived.Test.YtgniilnljeedlaaGreatDoorCards
import Derived.Test.YtgniilnljeedlaaGreatDoorTie
import Derived.Test.YtgniilnljeedlaaGreatDoorAFactVM
import Derived.Test.YtgniilnljeedlaaGreatDoorAFactL
set_option linter.defProp false
set_option linter.unusedSimpArgs false
set_option linter.unusedVariables false
set_option maxRecDepth 100000
namespace Go.Proofs.YtgniilnljeedlaaGreatDoor
open Go
theorem cGoes : true = Rows.vaultTruthsRow.goesBy Tryz.prog := by kernel_rfl
theorem cNamed : Tryz.prog.funcNamed "gladstone/gladstonelaw05.VaultTruths" = some 19 := by kernel_rfl
theorem cWf : Rows.vaultTruthsRow.wfByText (OpenSpec.ofChange Rows.vaultTruthsSpec) = true := by kernel_rfl
theorem vaultTruths_card : Rows.VaultTruthsCardSaid :=
 holds_goes .later [.handle] true (true, "d32cad7b5752cd6ac23a3449ca69d84f08b40200f08d5a4c3cfdbc50ae51ca56") true vaultTruths_said cWf vaultTruths_row_tie rfl ⟨rfl, rfl⟩ factMain rfl
  (fun f fn hf hfn => by
   obtain rfl : f = 19 := (Option.some.inj (cNamed.symm.trans hf)).symm
   obtain rfl : fn = Tryz.f19 := (Option.some.inj (Tryz.func19.symm.trans hfn)).symm
   exact ⟨factLooks, fun j t ht => by
    rw [Tryz.params19] at ht
    have h3 : t = 22 := by
     rcases j with _ | j
     ·simpa using ht.symm
     ·simp at ht
    subst h3
    exact factStand⟩)
  cGoes
#print axioms vaultTruths_card
end Go.Proofs.YtgniilnljeedlaaGreatDoor
