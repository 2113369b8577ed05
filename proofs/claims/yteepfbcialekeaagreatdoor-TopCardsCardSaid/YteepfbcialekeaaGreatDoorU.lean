/- The tied card of phosphortop.TopCards: its row holds for every input, and the variable that the row lists is tied to the program's text by the given tie. No condition beyond the card's own. -/
import Derived.Test.YteepfbcialekeaaGreatDoorT
import Derived.Test.YteepfbcialekeaaGreatDoorTie
import Derived.Test.YteepfbcialekeaaGreatDoorCards
import Derived.SevenTiedAt
namespace Go.Proofs.YteepfbcialekeaaGreatDoor
set_option linter.unusedSimpArgs false
set_option linter.unusedVariables false
open Go
/-- The statement. -/
theorem topCards_holds : Rows.TopCardsCardSaid :=
  Claim7.holds_tied_plain_at .later [] [.handle] true (true, "90077d46161b1fc73e0220e0e35368e6726eaa2ea2f5a3ac8a2e8c23399d9095") true
    topCards_row_holds (fun _ h => by cases h) (by kernel_rfl) (fun _ h => by cases h) topCards_row_tie rfl ⟨rfl, rfl⟩ (by kernel_rfl) rfl
    (fun f fn hf hfn => by
      obtain rfl : f = 3 := Option.some.inj ((show Tryz.prog.funcNamed "phosphor/phosphortop.TopCards" = some 3 by kernel_rfl).symm.trans hf) |>.symm
      obtain rfl : fn = Tryz.f3 := (Option.some.inj (Tryz.func3.symm.trans hfn)).symm
      exact ⟨by kernel_rfl, fun j t ht => by
        rw [Tryz.params3] at ht
        have h3 : t = 24 ∨ t = 25 ∨ t = 26 := by
          rcases j with _ | _ | _ | j
          · exact .inl (by simpa using ht.symm)
          · exact .inr (.inl (by simpa using ht.symm))
          · exact .inr (.inr (by simpa using ht.symm))
          · simp at ht
        rcases h3 with rfl | rfl | rfl
        · exact (show Tryz.prog.wantsStandIn 24 = false by kernel_rfl)
        · exact (show Tryz.prog.wantsStandIn 25 = false by kernel_rfl)
        · exact (show Tryz.prog.wantsStandIn 26 = false by kernel_rfl)⟩)
    (by kernel_rfl)
#print axioms topCards_holds
end Go.Proofs.YteepfbcialekeaaGreatDoor
