/- A fact about the program, for the rows' words. -/
import Derived.Test.YtofmadjgbcopdaaGreatDoorRows
import Derived.JoinedOf
import Derived.KernelRfl
set_option maxRecDepth 100000
namespace Go.Proofs.YtofmadjgbcopdaaGreatDoor
open Go
theorem factLift : Program.liftsFinal Tryz.prog = Rows.barrowJobsRow.lifted := by kernel_rfl
end Go.Proofs.YtofmadjgbcopdaaGreatDoor
