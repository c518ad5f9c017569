/- A fact about the program, for the rows' words. -/
import Derived.Test.YtnfnaehonkbknaaGreatDoorRows
import Derived.JoinedOf
import Derived.KernelRfl
set_option maxRecDepth 100000
namespace Go.Proofs.YtnfnaehonkbknaaGreatDoor
open Go
theorem factLift : Program.liftsFinal Tryz.prog = Rows.smellSafeRow.lifted := by kernel_rfl
end Go.Proofs.YtnfnaehonkbknaaGreatDoor
