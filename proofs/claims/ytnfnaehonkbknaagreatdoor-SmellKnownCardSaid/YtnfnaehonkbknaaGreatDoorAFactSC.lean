/- A fact about the program, for the rows' words. -/
import Derived.Test.YtnfnaehonkbknaaGreatDoorRows
import Derived.JoinedOf
import Derived.KernelRfl
set_option maxRecDepth 100000
namespace Go.Proofs.YtnfnaehonkbknaaGreatDoor
open Go
theorem factMake : Program.make Tryz.prog = some Rows.smellSafeRow.make := by kernel_rfl
end Go.Proofs.YtnfnaehonkbknaaGreatDoor
