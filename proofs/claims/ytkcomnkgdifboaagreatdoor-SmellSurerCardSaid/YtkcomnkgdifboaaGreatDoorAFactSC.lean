/- A fact about the program, for the rows' words. -/
import Derived.Test.YtkcomnkgdifboaaGreatDoorRows
import Derived.JoinedOf
import Derived.KernelRfl
set_option maxRecDepth 100000
namespace Go.Proofs.YtkcomnkgdifboaaGreatDoor
open Go
theorem factMake : Program.make Tryz.prog = some Rows.smellReachRow.make := by kernel_rfl
end Go.Proofs.YtkcomnkgdifboaaGreatDoor
