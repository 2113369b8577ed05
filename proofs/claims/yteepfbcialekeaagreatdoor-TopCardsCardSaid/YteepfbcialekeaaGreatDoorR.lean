/- The picture of TopCards: a row of n bytes, whatever they are. -/
import Derived.Test.YteepfbcialekeaaGreatDoorQ
namespace Go.Proofs.YteepfbcialekeaaGreatDoor
set_option linter.unusedSimpArgs false
set_option linter.unusedVariables false
open Go.RowKit
open RV
/-- The row g of n bytes in a world above W0. -/
structure IMG (W0 wr : World) (g n : Nat) : Prop where
  up : Up W0 wr
  new : W0.heap.size ≤ g
  row : ∃ cur : Array Value, cur.size = n ∧ (∀ k, k < n → ∃ x : Int, 0 ≤ x ∧ x < 256 ∧ cur[k]? = some (.int .u8 x)) ∧ wr.heap[g]? = some (.cells cur 5 (0, 0))
theorem IMG.get {W0 wr : World} {g n : Nat} (h : IMG W0 wr g n) {k : Nat} (hk : k < n) : ∃ x : Int, 0 ≤ x ∧ x < 256 ∧ wr.cell? ⟨g, k, none⟩ = some (.int .u8 x) := by
  obtain ⟨cur, _, hx, hg⟩ := h.row
  obtain ⟨x, x0, x1, e⟩ := hx k hk
  exact ⟨x, x0, x1, rowCell hg e⟩
theorem IMG.free {W0 wr : World} {g n : Nat} (h : IMG W0 wr g n) (k : Nat) : wr.frozen? ⟨g, k, none⟩ = false := by
  obtain ⟨cur, _, _, hg⟩ := h.row
  exact rowFree hg k
theorem IMG.set {W0 wr : World} {g n : Nat} (h : IMG W0 wr g n) (o : Nat) (x : Int) (x0 : 0 ≤ x) (x1 : x < 256) : IMG W0 (wr.setCell ⟨g, o, none⟩ (.int .u8 x)) g n := by
  obtain ⟨cur, hs, hx, hg⟩ := h.row
  refine ⟨h.up.setCell h.new _, h.new, cur.setIfInBounds o (.int .u8 x), by simpa using hs, ?_, heap_setCell_same _ _ _ _ _ _ hg⟩
  intro k hk
  by_cases e : o = k
  · subst e
    exact ⟨x, x0, x1, by rw [Array.getElem?_setIfInBounds, if_pos rfl, if_pos (by omega)]⟩
  · obtain ⟨y, y0, y1, e'⟩ := hx k hk
    exact ⟨y, y0, y1, by rw [Array.getElem?_setIfInBounds, if_neg e]; exact e'⟩
theorem IMG.drew {W0 wr : World} {g n : Nat} (h : IMG W0 wr g n) : IMG W0 wr.drew g n := ⟨h.up.drew, h.new, h.row⟩
theorem IMG.drewN {W0 wr : World} {g n : Nat} (h : IMG W0 wr g n) (k : Nat) : IMG W0 (wr.drewN k) g n := ⟨h.up.drewN k, h.new, h.row⟩
/-- The bytes of the row as a function. -/
theorem IMG.all {W0 wr : World} {g n : Nat} (h : IMG W0 wr g n) : ∃ G : Nat → Int, (∀ i, 0 ≤ G i ∧ G i < 256) ∧ ∀ i, i < n → wr.cell? ⟨g, i, none⟩ = some (.int .u8 (G i)) := by
  refine ⟨fun i => if hi : i < n then Classical.choose (h.get hi) else 0, fun i => ?_, fun i hi => ?_⟩
  · dsimp only
    split
    · rename_i hi
      have := Classical.choose_spec (h.get hi)
      exact ⟨this.1, this.2.1⟩
    · exact ⟨Int.le_refl 0, by decide⟩
  · dsimp only
    rw [dif_pos hi]
    exact (Classical.choose_spec (h.get hi)).2.2
theorem IMG.made (W0 : World) (n : Nat) : IMG W0 (W0.alloc (.cells (madeCells #[.int .u8 0] n) 5)) W0.heap.size n := by
  refine ⟨(Up.refl W0).alloc _, Nat.le_refl _, madeCells #[.int .u8 0] n, ?_, ?_, heap_at _ _ _ rfl⟩
  · simp [madeCells]
  · intro k hk
    exact ⟨0, by omega, by omega, by simp [madeCells, hk, Nat.mod_one]⟩
theorem u8_range (z : Int) : 0 ≤ IntKind.u8.wrap z ∧ IntKind.u8.wrap z < 256 := by
  simp only [IntKind.wrap, IntKind.bits, IntKind.signed]
  simp
  omega
end Go.Proofs.YteepfbcialekeaaGreatDoor
