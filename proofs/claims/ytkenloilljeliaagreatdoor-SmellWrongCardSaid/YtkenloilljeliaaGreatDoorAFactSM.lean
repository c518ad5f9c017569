/- A fact about the program, for the rows' cards. -/
import Derived.Test.YtkenloilljeliaaGreatDoorRows
import Derived.JoinedOf
import Derived.KernelRfl
set_option maxRecDepth 100000
namespace Go.Proofs.YtkenloilljeliaaGreatDoor
open Go
theorem factMain : Tryz.prog.mainIs = some (true, ("ea0ece1640afb468f9ee9798b58dba132f857a1c6dec74cce639003bdd8b0c32" : String).toList) := by kernel_rfl
end Go.Proofs.YtkenloilljeliaaGreatDoor
