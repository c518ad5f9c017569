/- phases begin with the first call, each with at most as many different pieces as there are places, and the piece that begins the next one; whatever is sent at least as many pieces are fetched as there are phases, less one; and RuleOld and RuleStale fetch at most as many in each phase as there are places -/
import Derived.Test.YtgniilnljeedlaaGreatDoorJ25
import Derived.Test.YtgniilnljeedlaaGreatDoorCards
import Derived.Test.YtgniilnljeedlaaGreatDoorTie
import Derived.Test.YtgniilnljeedlaaGreatDoorAFactVM
import Derived.Test.YtgniilnljeedlaaGreatDoorAFactL
set_option linter.defProp false
set_option linter.unusedSimpArgs false
set_option linter.unusedVariables false
set_option maxRecDepth 100000
namespace Go.Proofs.YtgniilnljeedlaaGreatDoor
open Go
theorem cGoes : true = Rows.vaultPhasesRow.goesBy Tryz.prog := by kernel_rfl
theorem cNamed : Tryz.prog.funcNamed "gladstone/gladstonelaw05.VaultPhases" = some 8 := by kernel_rfl
theorem cWf : Rows.vaultPhasesRow.wfByText (OpenSpec.ofChange Rows.vaultPhasesSpec) = true := by kernel_rfl
theorem vaultPhases_card : Rows.VaultPhasesCardSaid :=
 holds_goes .later [.handle] true (true, "d32cad7b5752cd6ac23a3449ca69d84f08b40200f08d5a4c3cfdbc50ae51ca56") true vaultPhases_said cWf vaultPhases_row_tie rfl ⟨rfl, rfl⟩ factMain rfl
  (fun f fn hf hfn => by
   obtain rfl : f = 8 := (Option.some.inj (cNamed.symm.trans hf)).symm
   obtain rfl : fn = Tryz.f8 := (Option.some.inj (Tryz.func8.symm.trans hfn)).symm
   exact ⟨factLooks, fun j t ht => by
    rw [Tryz.params8] at ht
    have h3 : t = 22 := by
     rcases j with _ | j
     ·simpa using ht.symm
     ·simp at ht
    subst h3
    exact factStand⟩)
  cGoes
#print axioms vaultPhases_card
end Go.Proofs.YtgniilnljeedlaaGreatDoor
