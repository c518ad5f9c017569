/-
  DERIVED. GIVEN WITH THE SEED: THE CARDS: each row of YtkcomnkgdifboaaGreatDoorRows.lean that lists a variable, with what it lists TIED to the program's text (the seventh form; the later family's looks); each row that meets fmt, with fmt's text TOLD by the authors' own Lean function (tested against real Go, not proved from fmt's source: count such statements apart). THE CARD IS WHAT COUNTS. Prove the row's statement (the work); the ties are given (YtkcomnkgdifboaaGreatDoorTie.lean); close each card by the builder's one call (the guide's Derived/Test/ToyasCard.lean, 'card_holds'). Laid BY PROGRAM, IN A SANDBOX (cutbox-door.mjs). By AI agents, Wed Nov 11 2026. No macro, syntax, notation, axiom, sorry.
-/
import Derived.Test.YtkcomnkgdifboaaGreatDoorRows
import GoSem.ClaimSeven
namespace Go.Proofs.YtkcomnkgdifboaaGreatDoor
namespace Rows

/-- THE TIED CARD OF 'gladstonelaw09.SmellReach'. -/
def smellReachCard : Claim7 := { stood := { row := smellReachRow, standIns := [], harness := (true, "feea252cce32e8988ba24d40c24fd31b7e0f3d2afcb5f74402150db0789647f1"), looks := true }, kinds := [], alts := [], goes := true, laidByText := true, laidKinds := [.handle], laidTests := true, laidLooks := .later }
def SmellReachCardSaid : Prop := Claim7.holds Tryz.pinned (.plain (OpenSpec.ofChange smellReachSpec)) smellReachCard

/-- THE TIED CARD OF 'gladstonelaw09.SmellSniff'. -/
def smellSniffCard : Claim7 := { stood := { row := smellSniffRow, standIns := [], harness := (true, "feea252cce32e8988ba24d40c24fd31b7e0f3d2afcb5f74402150db0789647f1"), looks := true }, kinds := [], alts := [], goes := true, laidByText := true, laidKinds := [.handle], laidTests := true, laidLooks := .later }
def SmellSniffCardSaid : Prop := Claim7.holds Tryz.pinned (.plain (OpenSpec.ofChange smellSniffSpec)) smellSniffCard

/-- THE TIED CARD OF 'gladstonelaw09.SmellSurer'. -/
def smellSurerCard : Claim7 := { stood := { row := smellSurerRow, standIns := [], harness := (true, "feea252cce32e8988ba24d40c24fd31b7e0f3d2afcb5f74402150db0789647f1"), looks := true }, kinds := [], alts := [], goes := true, laidByText := true, laidKinds := [.handle], laidTests := true, laidLooks := .later }
def SmellSurerCardSaid : Prop := Claim7.holds Tryz.pinned (.plain (OpenSpec.ofChange smellSurerSpec)) smellSurerCard

/-- THE TIED CARD OF 'gladstonelaw09.SmellNose'. -/
def smellNoseCard : Claim7 := { stood := { row := smellNoseRow, standIns := [], harness := (true, "feea252cce32e8988ba24d40c24fd31b7e0f3d2afcb5f74402150db0789647f1"), looks := true }, kinds := [], alts := [], goes := true, laidByText := true, laidKinds := [.handle], laidTests := true, laidLooks := .later }
def SmellNoseCardSaid : Prop := Claim7.holds Tryz.pinned (.plain (OpenSpec.ofChange smellNoseSpec)) smellNoseCard

/-- THE TIED CARD OF 'gladstonelaw09.SmellTrue'. -/
def smellTrueCard : Claim7 := { stood := { row := smellTrueRow, standIns := [], harness := (true, "feea252cce32e8988ba24d40c24fd31b7e0f3d2afcb5f74402150db0789647f1"), looks := true }, kinds := [], alts := [], goes := true, laidByText := true, laidKinds := [.handle], laidTests := true, laidLooks := .later }
def SmellTrueCardSaid : Prop := Claim7.holds Tryz.pinned (.plain (OpenSpec.ofChange smellTrueSpec)) smellTrueCard

/-- THE TIED CARD OF 'gladstonelaw09.SmellOwn'. -/
def smellOwnCard : Claim7 := { stood := { row := smellOwnRow, standIns := [], harness := (true, "feea252cce32e8988ba24d40c24fd31b7e0f3d2afcb5f74402150db0789647f1"), looks := true }, kinds := [], alts := [], goes := true, laidByText := true, laidKinds := [.handle], laidTests := true, laidLooks := .later }
def SmellOwnCardSaid : Prop := Claim7.holds Tryz.pinned (.plain (OpenSpec.ofChange smellOwnSpec)) smellOwnCard

/-- THE SECOND FORM's CARD OF 'gladstonelaw09.SmellReach'. -/
def smellReachUptoCard : Claim7 := { stood := { row := smellReachUptoRow, standIns := [], harness := (true, "feea252cce32e8988ba24d40c24fd31b7e0f3d2afcb5f74402150db0789647f1"), looks := true }, kinds := [], alts := [], goes := true, laidByText := true, laidKinds := [.handle], laidTests := true, laidLooks := .later }
def SmellReachUptoCardSaid : Prop := Claim7.holds Tryz.pinned (.plain (OpenSpec.upto smellReachSpec)) smellReachUptoCard

/-- THE SECOND FORM's CARD OF 'gladstonelaw09.SmellSniff'. -/
def smellSniffUptoCard : Claim7 := { stood := { row := smellSniffUptoRow, standIns := [], harness := (true, "feea252cce32e8988ba24d40c24fd31b7e0f3d2afcb5f74402150db0789647f1"), looks := true }, kinds := [], alts := [], goes := true, laidByText := true, laidKinds := [.handle], laidTests := true, laidLooks := .later }
def SmellSniffUptoCardSaid : Prop := Claim7.holds Tryz.pinned (.plain (OpenSpec.upto smellSniffSpec)) smellSniffUptoCard

/-- THE SECOND FORM's CARD OF 'gladstonelaw09.SmellSurer'. -/
def smellSurerUptoCard : Claim7 := { stood := { row := smellSurerUptoRow, standIns := [], harness := (true, "feea252cce32e8988ba24d40c24fd31b7e0f3d2afcb5f74402150db0789647f1"), looks := true }, kinds := [], alts := [], goes := true, laidByText := true, laidKinds := [.handle], laidTests := true, laidLooks := .later }
def SmellSurerUptoCardSaid : Prop := Claim7.holds Tryz.pinned (.plain (OpenSpec.upto smellSurerSpec)) smellSurerUptoCard

/-- THE SECOND FORM's CARD OF 'gladstonelaw09.SmellNose'. -/
def smellNoseUptoCard : Claim7 := { stood := { row := smellNoseUptoRow, standIns := [], harness := (true, "feea252cce32e8988ba24d40c24fd31b7e0f3d2afcb5f74402150db0789647f1"), looks := true }, kinds := [], alts := [], goes := true, laidByText := true, laidKinds := [.handle], laidTests := true, laidLooks := .later }
def SmellNoseUptoCardSaid : Prop := Claim7.holds Tryz.pinned (.plain (OpenSpec.upto smellNoseSpec)) smellNoseUptoCard

/-- THE SECOND FORM's CARD OF 'gladstonelaw09.SmellTrue'. -/
def smellTrueUptoCard : Claim7 := { stood := { row := smellTrueUptoRow, standIns := [], harness := (true, "feea252cce32e8988ba24d40c24fd31b7e0f3d2afcb5f74402150db0789647f1"), looks := true }, kinds := [], alts := [], goes := true, laidByText := true, laidKinds := [.handle], laidTests := true, laidLooks := .later }
def SmellTrueUptoCardSaid : Prop := Claim7.holds Tryz.pinned (.plain (OpenSpec.upto smellTrueSpec)) smellTrueUptoCard

/-- THE SECOND FORM's CARD OF 'gladstonelaw09.SmellOwn'. -/
def smellOwnUptoCard : Claim7 := { stood := { row := smellOwnUptoRow, standIns := [], harness := (true, "feea252cce32e8988ba24d40c24fd31b7e0f3d2afcb5f74402150db0789647f1"), looks := true }, kinds := [], alts := [], goes := true, laidByText := true, laidKinds := [.handle], laidTests := true, laidLooks := .later }
def SmellOwnUptoCardSaid : Prop := Claim7.holds Tryz.pinned (.plain (OpenSpec.upto smellOwnSpec)) smellOwnUptoCard
end Rows
end Go.Proofs.YtkcomnkgdifboaaGreatDoor
