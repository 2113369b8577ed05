/- Worlds in which a row of the call's own lies unchanged: what a region's walk keeps. -/
import Derived.Test.YthlacommhklkkaaPW
namespace Go.Proofs.Ythlacommhklkkaa
open Go.RowKit
open RV
/-- Above 'w': block g holds C. -/
structure RW (w : World) (g : Nat) (t : TypeId) (C : Array Value) (w' : World) : Prop where
  up : Up w w'
  row : w'.heap[g]? = some (.cells C t (0, 0))
theorem RW.later {w a b : World} {g : Nat} {t : TypeId} {C : Array Value} (h : RW w g t C a) (hb : Up a b) : RW w g t C b :=
  ⟨h.up.trans hb, (hb.heap (lt_of_block h.row)).trans h.row⟩
theorem RW.drew {w a : World} {g : Nat} {t : TypeId} {C : Array Value} (h : RW w g t C a) : RW w g t C a.drew := h.later (Up.drew (Up.refl a))
theorem RW.range {w a : World} {g : Nat} {t : TypeId} {C : Array Value} (h : RW w g t C a) : a.rangeAt g 0 C.toList := by
  intro j v hv
  rw [cell_of_row _ _ _ _ _ _ h.row, Nat.zero_add]
  simpa using hv
theorem RW.all {w a : World} {g : Nat} {t : TypeId} {C : Array Value} (h : RW w g t C a) : RW w g t C a ∧ a.rangeAt g 0 C.toList := ⟨h, h.range⟩
/-- The cells of a block. -/
def rowOf (w : World) (g : Nat) : Array Value := match w.heap[g]? with | some (.cells c _ _) => c | _ => #[]
/-- Block g is a row of n cells. -/
def RowOK (n : Nat) (w : World) (g : Nat) : Prop := (rowOf w g).size = n ∧ ∃ c t fr, w.heap[g]? = some (.cells c t fr)
theorem rowOf_eq {w : World} {g : Nat} {c : Array Value} {t : TypeId} {fr : Nat × Nat} (h : w.heap[g]? = some (.cells c t fr)) : rowOf w g = c := by unfold rowOf; rw [h]
theorem run_row {P : Program} (n : Nat) (w : World) (g : Nat) (h : RowOK n w g) : (loadCellsFrom ⟨g, 0, none⟩ 0 n #[]).run P w = .ok (rowOf w g) w := by
  obtain ⟨hn, c, t, fr, hg⟩ := h
  rw [rowOf_eq hg] at hn ⊢
  subst hn
  have := run_loadCells_list (P := P) w ⟨g, 0, none⟩ c.toList (fun j v hv => by
    rw [Addr.add_mid, Nat.zero_add, cell_of_row _ _ _ _ _ _ hg]
    simpa using hv)
  simpa [loadCells] using this
theorem RW.full {w a : World} {g n : Nat} {t : TypeId} {C : Array Value} (h : RW w g t C a) (hn : C.size = n) : RW w g t C a ∧ RowOK n a g ∧ rowOf a g = C :=
  ⟨h, ⟨by rw [rowOf_eq h.row]; exact hn, C, t, (0, 0), h.row⟩, rowOf_eq h.row⟩
theorem up_of_eq {e : Ending} {v : Ending} {w a w' : World} (h : e = v ∧ a = w') (hu : Up w a) : e = v ∧ Up w w' := ⟨h.1, h.2 ▸ hu⟩
end Go.Proofs.Ythlacommhklkkaa
