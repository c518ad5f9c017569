/- A fact about the program, for the rows' words. -/
import Derived.Test.YtaehjjbekjglkaaGreatDoorRows
import Derived.JoinedOf
import Derived.KernelRfl
set_option maxRecDepth 100000
namespace Go.Proofs.YtaehjjbekjglkaaGreatDoor
open Go
theorem factEnter : Program.mayEnter Tryz.prog = true := by kernel_rfl
end Go.Proofs.YtaehjjbekjglkaaGreatDoor
