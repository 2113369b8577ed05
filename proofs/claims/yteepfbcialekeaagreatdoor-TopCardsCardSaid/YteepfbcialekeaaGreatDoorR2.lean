/- The bus while its file is set. -/
import Derived.Test.YteepfbcialekeaaGreatDoorR
namespace Go.Proofs.YteepfbcialekeaaGreatDoor
set_option linter.unusedSimpArgs false
set_option linter.unusedVariables false
open Go.RowKit
open RV
def mixF (F : Nat → Int) (k : Nat) : Nat → Int := fun i => if i < k then F i % 256 else FF i
theorem mixF_zero (F : Nat → Int) : mixF F 0 = FF := funext fun i => if_neg (by omega)
theorem BusOK.filed {w : World} {b c r m cap k : Nat} {F G : Nat → Int} (h : BusOK w b c r m cap (mixF F k) G) (hk : k < 8) : BusOK (w.setCell ⟨b, 8475 + k, none⟩ (.int .i64 (F k % 256))) b c r m cap (mixF F (k + 1)) G where
  card := by rw [World.cell?_setCell_other _ _ _ _ (fun h => by have := congrArg Addr.off h; simp at this; omega)]; exact h.card
  latch := by rw [World.cell?_setCell_other _ _ _ _ (fun h => by have := congrArg Addr.off h; simp at this; omega)]; exact h.latch
  hold := by rw [World.cell?_setCell_other _ _ _ _ (fun h => by have := congrArg Addr.off h; simp at this; omega)]; exact h.hold
  file := fun i hi => by
    by_cases e : i = k
    · subst e
      rw [World.cell?_setCell_same _ _ _ (h.file i hk)]
      unfold mixF; rw [if_pos (by omega)]
    · rw [World.cell?_setCell_other _ _ _ _ (fun h => by have := congrArg Addr.off h; simp at this; omega), h.file i hi]
      unfold mixF
      by_cases hl : i < k
      · rw [if_pos hl, if_pos (by omega)]
      · rw [if_neg hl, if_neg (by omega)]
  free := fun o => by simpa using h.free o
  rom := by rw [World.cell?_setCell_other _ _ _ _ (fun h => by have := congrArg Addr.off h; simp at this)]; exact h.rom
  bytes := fun i hi => by
    by_cases hrb : r = b ∧ i = 8475 + k
    · obtain ⟨rfl, rfl⟩ := hrb
      have := (h.bytes _ hi).symm.trans (h.file k hk)
      cases this
    · rw [World.cell?_setCell_other _ _ _ _ (by simp; intro a b; exact hrb ⟨a.symm, b.symm⟩)]; exact h.bytes i hi
end Go.Proofs.YteepfbcialekeaaGreatDoor
