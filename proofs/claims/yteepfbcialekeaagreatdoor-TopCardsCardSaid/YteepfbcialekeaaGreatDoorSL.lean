/- Opening slices whose elements are so many whole numbers each. -/
import Derived.Test.YteepfbcialekeaaGreatDoorOP
import Derived.Deep.Slices
import Derived.Deep.MidRow
namespace Go.Proofs.YteepfbcialekeaaGreatDoor.OP
open Go.Deep Go.ChangeShapes Go.WideShapes Go.ChangeAt Go.RowKit

def numAt (w : World) (a : Addr) : Int := match w.cell? a with | some (.int .i64 z) => if -9223372036854775808 ≤ z ∧ z ≤ 9223372036854775807 then z else 0 | _ => 0
theorem numAt_rng (w : World) (a : Addr) : -9223372036854775808 ≤ numAt w a ∧ numAt w a ≤ 9223372036854775807 := by
  unfold numAt
  split
  · split
    · assumption
    · decide
  · decide
theorem numAt_eq {w : World} {a : Addr} {z : Int} (h : w.cell? a = some (.int .i64 z)) (hz : -9223372036854775808 ≤ z ∧ z ≤ 9223372036854775807) : numAt w a = z := by
  unfold numAt; rw [h]; exact if_pos hz
/-- A slice of elements of n whole numbers each: number c of element i is 'Z i c'. -/
def IsRows (w : World) (n : Nat) (a : Option Addr) (len cap : Nat) (Z : Nat → Nat → Int) : Prop :=
  len ≤ cap ∧ cap ≤ 9223372036854775807 ∧ (∀ i c, -9223372036854775808 ≤ Z i c ∧ Z i c ≤ 9223372036854775807) ∧
  (len = 0 ∨ ∃ b off, a = some ⟨b, off, none⟩ ∧ b < w.heap.size ∧ ∀ i c, i < len → c < n → w.cell? ⟨b, off + i * n + c, none⟩ = some (.int .i64 (Z i c)))
/-- A slice of whole numbers: element i is 'Z i'. -/
def IsRow (w : World) (a : Option Addr) (len cap : Nat) (Z : Nat → Int) : Prop :=
  len ≤ cap ∧ cap ≤ 9223372036854775807 ∧ (∀ i, -9223372036854775808 ≤ Z i ∧ Z i ≤ 9223372036854775807) ∧
  (len = 0 ∨ ∃ b off, a = some ⟨b, off, none⟩ ∧ b < w.heap.size ∧ ∀ i, i < len → w.cell? ⟨b, off + i, none⟩ = some (.int .i64 (Z i)))

section
variable {H : Type} {enc : TypeId × Value → H} {P : Program} {w : World} {base : Nat} {spare : Nat → Bool} {held : Bool}
theorem rows_open {t e : TypeId} {n : Nat} {a : Option Addr} {len cap : Nat} {d : DataW H} {ps : List MemPlace} (hu : P.underlying t = some (.slice e)) (hc : P.cellsOf e = n) (hn : 0 < n) (hl : kinds P e = List.replicate n (some true))
    (h : DataW.Trod enc P w base spare held t (.slice a len cap) d ps) : ∃ Z, IsRows w n a len cap Z := by
  obtain ⟨fuel, hf⟩ := h
  rcases open_slice hu hf with ⟨h0, _⟩ | ⟨a', len', cap', m, q, D, Pl, h0, _, hlc, hcm, hm, _, hx⟩
  · simp only [Value.cells, List.cons.injEq, Value.slice.injEq, and_true] at h0
    obtain ⟨rfl, rfl, rfl⟩ := h0
    exact ⟨fun _ _ => 0, Nat.le_refl _, by omega, fun _ _ => ⟨by show (-9223372036854775808 : Int) ≤ 0; decide, by show (0 : Int) ≤ 9223372036854775807; decide⟩, .inl rfl⟩
  · simp only [Value.cells, List.cons.injEq, Value.slice.injEq, and_true] at h0
    obtain ⟨rfl, rfl, rfl⟩ := h0
    have hcap : cap ≤ 9223372036854775807 := by unfold maxLen at hcm; omega
    by_cases hl0 : len = 0
    · exact ⟨fun _ _ => 0, hlc, hcap, fun _ _ => ⟨by show (-9223372036854775808 : Int) ≤ 0; decide, by show (0 : Int) ≤ 9223372036854775807; decide⟩, .inl hl0⟩
    · have hlm : len ≤ m := by rw [hm]; split <;> omega
      have key : ∀ i c, i < len → c < n → ∃ z : Int, w.cell? ((a'.add (i * n)).add c) = some (.int .i64 z) ∧ -9223372036854775808 ≤ z ∧ z ≤ 9223372036854775807 := by
        intro i c hi hcn
        obtain ⟨cs', h1, h2⟩ := hx i (by omega)
        rw [hc] at h1
        have hk : kindAt P 8 e c = some true := by
          have h3 : (kinds P e)[c]? = some (some true) := by rw [hl]; simp [hcn]
          simp only [kinds, List.getElem?_map, List.getElem?_range (show c < P.cellsOf e by omega), Option.map_some, Option.some.injEq] at h3
          exact h3
        obtain ⟨v, hv, z, rfl, hz⟩ := trod_kind 8 _ _ _ _ _ _ h2 hk
        obtain ⟨_, hlen, hcell⟩ := World.cells?_some h1
        exact ⟨z, (hcell c hcn).trans hv, hz⟩
      obtain ⟨b, off, spot⟩ := a'
      have hspot : spot = none := by
        obtain ⟨z, hz, _⟩ := key 0 0 (by omega) hn
        have := World.cell?_spot hz
        simpa [Addr.add] using this
      subst hspot
      have key2 : ∀ i c, i < len → c < n → ∃ z : Int, w.cell? ⟨b, off + i * n + c, none⟩ = some (.int .i64 z) ∧ -9223372036854775808 ≤ z ∧ z ≤ 9223372036854775807 := by
        intro i c hi hcn
        have := key i c hi hcn
        rw [Addr.add_mid, Addr.add_mid] at this
        exact this
      refine ⟨fun i c => numAt w ⟨b, off + i * n + c, none⟩, hlc, hcap, fun i c => numAt_rng _ _, .inr ⟨b, off, rfl, ?_, ?_⟩⟩
      · obtain ⟨z, hz, _⟩ := key2 0 0 (by omega) hn
        exact block_lt_of_cell hz
      · intro i c hi hcn
        obtain ⟨z, hz, hr⟩ := key2 i c hi hcn
        show w.cell? _ = some (.int .i64 (numAt w _))
        rw [numAt_eq hz hr]; exact hz
theorem row_open {t e : TypeId} {a : Option Addr} {len cap : Nat} {d : DataW H} {ps : List MemPlace} (hu : P.underlying t = some (.slice e)) (hc : P.cellsOf e = 1) (hl : kinds P e = List.replicate 1 (some true))
    (h : DataW.Trod enc P w base spare held t (.slice a len cap) d ps) : ∃ Z, IsRow w a len cap Z := by
  obtain ⟨Z, h1, h2, h3, h4⟩ := rows_open hu hc (by decide) hl h
  refine ⟨fun i => Z i 0, h1, h2, fun i => h3 i 0, ?_⟩
  rcases h4 with h4 | ⟨b, off, ha, hb, hx⟩
  · exact .inl h4
  · exact .inr ⟨b, off, ha, hb, fun i hi => by simpa using hx i 0 hi (by decide)⟩
end
end Go.Proofs.YteepfbcialekeaaGreatDoor.OP
