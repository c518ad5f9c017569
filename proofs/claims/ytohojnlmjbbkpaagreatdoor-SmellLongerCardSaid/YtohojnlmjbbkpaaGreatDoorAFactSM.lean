/- A fact about the program, for the rows' cards. -/
import Derived.Test.YtohojnlmjbbkpaaGreatDoorRows
import Derived.JoinedOf
import Derived.KernelRfl
set_option maxRecDepth 100000
namespace Go.Proofs.YtohojnlmjbbkpaaGreatDoor
open Go
theorem factMain : Tryz.prog.mainIs = some (true, ("c65935e0ffe5db02ed7b382706e1ab1f8419c2cfffd8e896179f5e5685e8772d" : String).toList) := by kernel_rfl
end Go.Proofs.YtohojnlmjbbkpaaGreatDoor
