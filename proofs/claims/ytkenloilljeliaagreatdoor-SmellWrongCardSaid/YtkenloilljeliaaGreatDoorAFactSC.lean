/- A fact about the program, for the rows' words. -/
import Derived.Test.YtkenloilljeliaaGreatDoorRows
import Derived.JoinedOf
import Derived.KernelRfl
set_option maxRecDepth 100000
namespace Go.Proofs.YtkenloilljeliaaGreatDoor
open Go
theorem factMake : Program.make Tryz.prog = some Rows.smellWrongRow.make := by kernel_rfl
end Go.Proofs.YtkenloilljeliaaGreatDoor
