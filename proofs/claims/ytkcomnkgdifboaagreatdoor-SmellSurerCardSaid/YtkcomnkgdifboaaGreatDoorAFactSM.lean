/- A fact about the program, for the rows' cards. -/
import Derived.Test.YtkcomnkgdifboaaGreatDoorRows
import Derived.JoinedOf
import Derived.KernelRfl
set_option maxRecDepth 100000
namespace Go.Proofs.YtkcomnkgdifboaaGreatDoor
open Go
theorem factMain : Tryz.prog.mainIs = some (true, ("feea252cce32e8988ba24d40c24fd31b7e0f3d2afcb5f74402150db0789647f1" : String).toList) := by kernel_rfl
end Go.Proofs.YtkcomnkgdifboaaGreatDoor
