/- Worlds in which a row of the call's own may have been written at one place: what is kept of them through calls, draws and that store. -/
import Derived.Test.YteepfbcialekeaaGreatDoorBC
import Derived.Test.YteepfbcialekeaaGreatDoorRV
namespace Go.Proofs.YteepfbcialekeaaGreatDoor
open Go.RowKit
open RV

def heldAt (w : World) (a : Addr) : Value := (w.cell? a).getD undef
theorem heldAt_eq {w : World} {a : Addr} {v : Value} (h : w.cell? a = some v) : w.cell? a = some (heldAt w a) := by unfold heldAt; rw [h]; rfl
theorem lt_of_block {w : World} {g : Nat} {o : Obj} (h : w.heap[g]? = some o) : g < w.heap.size := (Array.getElem?_eq_some_iff.1 h).1

theorem Up.trans2 {a w : World} (h : Up a w) {g : Nat} (hg : a.heap.size ≤ g) (cs : Array Value) : Up a (w.setRow g cs) := by
  obtain ⟨h1, h2, h3, h4, h5⟩ := h
  exact ⟨h1, h2, h3, by simpa using h4, fun b hb => (setRow_other w g b cs (by omega)).trans (h5 b hb)⟩
theorem Up.setRow {a w : World} (h : Up a w) {g : Nat} (hg : a.heap.size ≤ g) (cs : Array Value) : Up a (w.setRow g cs) :=
  h.trans2 hg cs
/-- Above 'w': block g holds 's, F' but for place j; block k holds Z. -/
structure PW (w : World) (g : Nat) (t : TypeId) (s : Int) (n : Nat) (F : Nat → Int) (j k : Nat) (Z : Obj) (w' : World) : Prop where
  up : Up w w'
  row : ∃ y, w'.heap[g]? = some (.cells (rv [s] n (upd F j y)) t (0, 0))
  res : w'.heap[k]? = some Z
theorem upd_self (F : Nat → Int) (j : Nat) : upd F j (F j) = F := by funext i; unfold upd; split <;> simp_all
theorem upd_upd (F : Nat → Int) (j : Nat) (x y : Int) : upd (upd F j x) j y = upd F j y := by funext i; unfold upd; split <;> rfl
section
variable {w a b : World} {g : Nat} {t : TypeId} {s : Int} {n : Nat} {F : Nat → Int} {j k : Nat} {Z : Obj}
theorem PW.first (hu : Up w a) (hg : a.heap[g]? = some (.cells (rv [s] n F) t (0, 0))) (hk : a.heap[k]? = some Z) : PW w g t s n F j k Z a :=
  ⟨hu, ⟨F j, by rw [upd_self]; exact hg⟩, hk⟩
theorem PW.later (h : PW w g t s n F j k Z a) (hb : Up a b) : PW w g t s n F j k Z b := by
  obtain ⟨y, hy⟩ := h.row
  exact ⟨h.up.trans hb, ⟨y, (hb.heap (lt_of_block hy)).trans hy⟩, (hb.heap (lt_of_block h.res)).trans h.res⟩
theorem PW.drew (h : PW w g t s n F j k Z a) : PW w g t s n F j k Z a.drew := h.later (Up.drew (Up.refl a))
theorem PW.row_store (h : PW w g t s n F j k Z a) (x : Int) : (a.setCell ⟨g, 1 + j, none⟩ (.int .i64 x)).heap[g]? = some (.cells (rv [s] n (upd F j x)) t (0, 0)) := by
  obtain ⟨y, hy⟩ := h.row
  rw [heap_setCell_same _ _ _ _ _ _ hy, rv1_set, upd_upd]
theorem PW.store (h : PW w g t s n F j k Z a) (hw : w.heap.size ≤ g) (hk : k ≠ g) (x : Int) : PW w g t s n F j k Z (a.setCell ⟨g, 1 + j, none⟩ (.int .i64 x)) :=
  ⟨Up.setCell h.up hw _, ⟨x, h.row_store x⟩, (heap_setCell_other _ _ _ _ hk).trans h.res⟩
theorem PW.cell0 (h : PW w g t s n F j k Z a) : a.cell? ⟨g, 0, none⟩ = some (.int .i64 s) := by
  obtain ⟨y, hy⟩ := h.row
  exact (cell_of_row _ _ _ _ _ _ hy).trans (rv1_get0 _ _ _)
theorem PW.cellj (h : PW w g t s n F j k Z a) (hj : j < n) : a.cell? ⟨g, 1 + j, none⟩ = some (heldAt a ⟨g, 1 + j, none⟩) := by
  obtain ⟨y, hy⟩ := h.row
  exact heldAt_eq ((cell_of_row _ _ _ _ _ _ hy).trans (rv1_get _ _ _ _ hj))
theorem PW.frz (h : PW w g t s n F j k Z a) (i : Nat) : a.frozen? ⟨g, i, none⟩ = false := by
  obtain ⟨y, hy⟩ := h.row
  exact frozen_of_row _ _ _ _ _ hy
/-- What a region's walk keeps. -/
theorem PW.all (h : PW w g t s n F j k Z a) (hj : j < n) :
    PW w g t s n F j k Z a ∧ a.cell? ⟨g, 0, none⟩ = some (.int .i64 s) ∧ a.cell? ⟨g, 1 + j, none⟩ = some (heldAt a ⟨g, 1 + j, none⟩) ∧ a.frozen? ⟨g, 1 + j, none⟩ = false :=
  ⟨h, h.cell0, h.cellj hj, h.frz _⟩
end
end Go.Proofs.YteepfbcialekeaaGreatDoor
