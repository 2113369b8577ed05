/-
  DERIVED. GIVEN WITH THE SEED: THE CARDS: each row of YteepfbcialekeaaGreatDoorRows.lean that lists a variable, with what it lists TIED to the program's text (the seventh form; the later family's looks); each row that meets fmt, with fmt's text TOLD by the authors' own Lean function (tested against real Go, not proved from fmt's source: count such statements apart). THE CARD IS WHAT COUNTS. Prove the row's statement (the work); the ties are given (YteepfbcialekeaaGreatDoorTie.lean); close each card by the builder's one call (the guide's Derived/Test/ToyasCard.lean, 'card_holds'). Laid BY PROGRAM, IN A SANDBOX (cutbox-door.mjs). By AI agents, Wed Nov 11 2026. No macro, syntax, notation, axiom, sorry.
-/
import Derived.Test.YteepfbcialekeaaGreatDoorRows
import GoSem.ClaimSeven
namespace Go.Proofs.YteepfbcialekeaaGreatDoor
namespace Rows

/-- THE TIED CARD OF 'phosphortop.TopCards'. -/
def topCardsCard : Claim7 := { stood := { row := topCardsRow, standIns := [], harness := (true, "90077d46161b1fc73e0220e0e35368e6726eaa2ea2f5a3ac8a2e8c23399d9095"), looks := true }, kinds := [], alts := [], laidByText := true, laidKinds := [.handle], laidTests := true, laidLooks := .later }
def TopCardsCardSaid : Prop := Claim7.holds Tryz.pinned (.plain (OpenSpec.ofChange topCardsSpec)) topCardsCard

/-- THE SECOND FORM's CARD OF 'phosphortop.TopCards'. -/
def topCardsUptoCard : Claim7 := { stood := { row := topCardsUptoRow, standIns := [], harness := (true, "90077d46161b1fc73e0220e0e35368e6726eaa2ea2f5a3ac8a2e8c23399d9095"), looks := true }, kinds := [], alts := [], laidByText := true, laidKinds := [.handle], laidTests := true, laidLooks := .later }
def TopCardsUptoCardSaid : Prop := Claim7.holds Tryz.pinned (.plain (OpenSpec.upto topCardsSpec)) topCardsUptoCard
end Rows
end Go.Proofs.YteepfbcialekeaaGreatDoor
