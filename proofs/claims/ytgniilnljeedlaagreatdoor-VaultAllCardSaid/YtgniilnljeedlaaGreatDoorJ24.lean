/- Texts PBase. -/
import Derived.Test.YtgniilnljeedlaaGreatDoorJ23
import Derived.Test.YtgniilnljeedlaaGreatDoorRows
set_option linter.defProp false
set_option linter.unusedSimpArgs false
set_option linter.unusedVariables false
set_option maxRecDepth 100000
set_option maxHeartbeats 2000000
section
namespace Go.Proofs.YtgniilnljeedlaaGreatDoor
open Go Go.X Go.ChangeShapes Go.WideShapes Go.RowKit
theorem ownK : ownKnob Tryz.prog.godebug = none := by kernel_rfl
theorem laidOutK : laidOutB Tryz.prog = true := by kernel_rfl
theorem cellsK : Tryz.prog.cellsOf 3 = 1 := by kernel_rfl
noncomputable def laidWorld (os : Os) : World :=
 let w0 := World.holding Tryz.prog os ⟨#[], #[], []⟩
 {w0 with heap := w0.heap.modify 0 fun
   | .cells _ t frozen => .cells #[.iface 210 (.agg #[.pointer (some ⟨1, 139, none⟩)])] t frozen
   | o => o }
theorem laidWorld_met (os : Os) (args : Array Value) : laidMetH Tryz.prog [("errors.errorType", Rows.laid_errors_errorType)] ((laidWorld os).forCall (fun _ _ => 0) ⟨#[], args, []⟩).memory :=
 laidMetH_of_parts (laidMet_nil _ _) (by kernel_rfl)
theorem results_tmp {fn : Func} {t : Tmp} (h : fn.results = #[.tmp t]) (P : Program) (tmps : Array Value) (w : World) (v : Value) (w' : World) (hr : (results fn tmps).run P w = .ok v w') : w' = w := by
 simp [results, h] at hr
 exact hr.2.symm
end Go.Proofs.YtgniilnljeedlaaGreatDoor
end
