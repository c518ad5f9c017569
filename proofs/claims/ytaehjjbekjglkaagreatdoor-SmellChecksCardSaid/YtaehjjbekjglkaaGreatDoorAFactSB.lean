/- A fact about the program, for the rows' words. -/
import Derived.Test.YtaehjjbekjglkaaGreatDoorRows
import Derived.JoinedOf
import Derived.KernelRfl
set_option maxRecDepth 100000
namespace Go.Proofs.YtaehjjbekjglkaaGreatDoor
open Go
theorem factLift : Program.liftsFinal Tryz.prog = Rows.smellChecksRow.lifted := by kernel_rfl
end Go.Proofs.YtaehjjbekjglkaaGreatDoor
