/- A fact about the program, for the rows' cards. -/
import Derived.Test.YtnfnaehonkbknaaGreatDoorRows
import Derived.JoinedOf
import Derived.KernelRfl
set_option maxRecDepth 100000
namespace Go.Proofs.YtnfnaehonkbknaaGreatDoor
open Go
theorem factMain : Tryz.prog.mainIs = some (true, ("2852e31d5adcd91408d247945665a6cdaac13ffbe27df01981c663c4cc0b8480" : String).toList) := by kernel_rfl
end Go.Proofs.YtnfnaehonkbknaaGreatDoor
