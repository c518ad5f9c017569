/- Which smells are valid, and how many hours the smell takes from place to place: the program and the reference say the same. -/
import Derived.Test.YtaehjjbekjglkaaGreatDoorJ28
import Derived.Test.YtaehjjbekjglkaaGreatDoorCards
import Derived.Test.YtaehjjbekjglkaaGreatDoorTie
import Derived.Test.YtaehjjbekjglkaaGreatDoorAFactSM
import Derived.Test.YtaehjjbekjglkaaGreatDoorAFactL
set_option linter.defProp false
set_option linter.unusedSimpArgs false
set_option linter.unusedVariables false
set_option maxRecDepth 100000
namespace Go.Proofs.YtaehjjbekjglkaaGreatDoor
open Go Go.Proofs.Tryz
theorem standdoor:Tryz.prog.wantsStandIn 30=false:=by kernel_rfl
theorem standint:Tryz.prog.wantsStandIn 3=false:=by kernel_rfl
theorem standnose:Tryz.prog.wantsStandIn 32=false:=by kernel_rfl
theorem standsmell:Tryz.prog.wantsStandIn 26=false:=by kernel_rfl
theorem cGoes:true=Rows.smellChecksRow.goesBy Tryz.prog:=by kernel_rfl
theorem cNamed:Tryz.prog.funcNamed "gladstone/gladstonelaw09.SmellChecks" = some 3:=by kernel_rfl
theorem cWf:Rows.smellChecksRow.wfByText (OpenSpec.ofChange Rows.smellChecksSpec)=true:=by kernel_rfl
theorem smellChecks_card:Rows.SmellChecksCardSaid:=
 holds_goes .later [.handle] true (true, "6a335471e46ed83d74616de545a65863b0f2349136a744ad660b2183450c6b4f") true smellChecks_said cWf smellChecks_row_tie rfl ⟨rfl,rfl⟩ factMain rfl
  (fun f fn hf hfn=>by
   obtain rfl:f=3:=(Option.some.inj (cNamed.symm.trans hf)).symm
   obtain rfl:fn=Tryz.f3:=(Option.some.inj (func3.symm.trans hfn)).symm
   exact ⟨factLooks,fun j t ht=>by
    rw [params3] at ht
    rcases j with _ | (_ | (_ | (_ | (_ | (_ | j)))))
    ·obtain rfl:t=26:=by simpa using ht.symm
     exact standsmell
    ·obtain rfl:t=30:=by simpa using ht.symm
     exact standdoor
    ·obtain rfl:t=32:=by simpa using ht.symm
     exact standnose
    ·obtain rfl:t=3:=by simpa using ht.symm
     exact standint
    ·obtain rfl:t=3:=by simpa using ht.symm
     exact standint
    ·obtain rfl:t=23:=by simpa using ht.symm
     exact factStand
    ·simp at ht⟩)
  cGoes
#print axioms smellChecks_card
end Go.Proofs.YtaehjjbekjglkaaGreatDoor
