/- A fact about the program, for the rows' cards. -/
import Derived.Test.YtaehjjbekjglkaaGreatDoorRows
import Derived.JoinedOf
import Derived.KernelRfl
set_option maxRecDepth 100000
namespace Go.Proofs.YtaehjjbekjglkaaGreatDoor
open Go
theorem factMain : Tryz.prog.mainIs = some (true, ("6a335471e46ed83d74616de545a65863b0f2349136a744ad660b2183450c6b4f" : String).toList) := by kernel_rfl
end Go.Proofs.YtaehjjbekjglkaaGreatDoor
