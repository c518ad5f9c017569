/- A fact about the program, for the rows' cards. -/
import Derived.Test.YtofmadjgbcopdaaGreatDoorRows
import Derived.JoinedOf
import Derived.KernelRfl
set_option maxRecDepth 100000
namespace Go.Proofs.YtofmadjgbcopdaaGreatDoor
open Go
theorem factMain : Tryz.prog.mainIs = some (true, ("0cbb10fac3cc5d98e611f710665526b70a35d16e2c2f95a72bce42dd64753871" : String).toList) := by kernel_rfl
end Go.Proofs.YtofmadjgbcopdaaGreatDoor
