/- VaultNew: for every list of numbers the law returns true and leaves what it was given as it was: no rule fetches fewer pieces than are new, just as many if there is a place for each piece, and none if only what is there is asked for. -/
import Derived.Test.YtgniilnljeedlaaGreatDoorJ25
import Derived.Test.YtgniilnljeedlaaGreatDoorCards
import Derived.Test.YtgniilnljeedlaaGreatDoorTie
import Derived.Test.YtgniilnljeedlaaGreatDoorAFactVM
import Derived.Test.YtgniilnljeedlaaGreatDoorAFactL
set_option linter.defProp false
set_option linter.unusedSimpArgs false
set_option linter.unusedVariables false
set_option maxRecDepth 100000
namespace Go.Proofs.YtgniilnljeedlaaGreatDoor
open Go
theorem cGoes : true = Rows.vaultNewRow.goesBy Tryz.prog := by kernel_rfl
theorem cNamed : Tryz.prog.funcNamed "gladstone/gladstonelaw05.VaultNew" = some 9 := by kernel_rfl
theorem cWf : Rows.vaultNewRow.wfByText (OpenSpec.ofChange Rows.vaultNewSpec) = true := by kernel_rfl
theorem vaultNew_card : Rows.VaultNewCardSaid :=
 holds_goes .later [.handle] true (true, "d32cad7b5752cd6ac23a3449ca69d84f08b40200f08d5a4c3cfdbc50ae51ca56") true vaultNew_said cWf vaultNew_row_tie rfl ⟨rfl, rfl⟩ factMain rfl
  (fun f fn hf hfn => by
   obtain rfl : f = 9 := (Option.some.inj (cNamed.symm.trans hf)).symm
   obtain rfl : fn = Tryz.f9 := (Option.some.inj (Tryz.func9.symm.trans hfn)).symm
   exact ⟨factLooks, fun j t ht => by
    rw [Tryz.params9] at ht
    have h3 : t = 22 := by
     rcases j with _ | j
     ·simpa using ht.symm
     ·simp at ht
    subst h3
    exact factStand⟩)
  cGoes
#print axioms vaultNew_card
end Go.Proofs.YtgniilnljeedlaaGreatDoor
