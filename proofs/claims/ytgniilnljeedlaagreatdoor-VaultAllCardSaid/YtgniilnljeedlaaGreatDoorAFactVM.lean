/- A fact about the program, for the rows' cards. -/
import Derived.Test.YtgniilnljeedlaaGreatDoorRows
import Derived.JoinedOf
import Derived.KernelRfl
set_option maxRecDepth 100000
namespace Go.Proofs.YtgniilnljeedlaaGreatDoor
open Go
theorem factMain : Tryz.prog.mainIs = some (true, ("d32cad7b5752cd6ac23a3449ca69d84f08b40200f08d5a4c3cfdbc50ae51ca56" : String).toList) := by kernel_rfl
end Go.Proofs.YtgniilnljeedlaaGreatDoor
