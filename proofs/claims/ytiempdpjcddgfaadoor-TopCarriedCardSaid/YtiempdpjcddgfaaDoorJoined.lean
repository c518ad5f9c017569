/- For every list of numbers TopCarried returns true and leaves what it was given as it was; what the library's variable errors.errorType holds as the call begins is tied to the program's text. -/
import Derived.Test.YtiempdpjcddgfaaDoorJ12
import Derived.Test.YtiempdpjcddgfaaDoorCards
import Derived.Test.YtiempdpjcddgfaaDoorTie
import Derived.SevenTiedAt
namespace Go.Proofs.YtiempdpjcddgfaaDoor
open Go

theorem topCarried_card : Rows.TopCarriedCardSaid :=
  Claim7.holds_tied_plain_at .later [] [.handle] true (true, "39c94cfaee6efc0bf5c861b1634b9bcc5cda8b6e53238db3dbfb8d69c0db8390") true
    topCarried_said (fun _ h => by cases h) (by kernel_rfl) (fun _ h => by cases h) topCarried_row_tie rfl ⟨rfl, rfl⟩ (by kernel_rfl) rfl
    (fun f fn hf hfn => by
      obtain rfl : f = 3 := Option.some.inj ((show Tryd.prog.funcNamed "gladstone/gladstonetop.TopCarried" = some 3 by kernel_rfl).symm.trans hf) |>.symm
      obtain rfl : fn = Tryd.f3 := (Option.some.inj (Tryd.func3.symm.trans hfn)).symm
      exact ⟨by kernel_rfl, fun j t ht => by
        rw [Tryd.params3] at ht
        have h3 : t = 22 := by
          rcases j with _ | j
          · simpa using ht.symm
          · simp at ht
        subst h3
        exact (show Tryd.prog.wantsStandIn 22 = false by kernel_rfl)⟩)
    (by kernel_rfl)
#print axioms topCarried_card
end Go.Proofs.YtiempdpjcddgfaaDoor
