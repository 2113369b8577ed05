/- Contract of (*Bus).Read where a plain card lies. -/
import Derived.Test.YteepfbcialekeaaGreatDoorJ
import Derived.Deep.RegionHeld3
namespace Go.Proofs.YteepfbcialekeaaGreatDoor
set_option linter.unusedSimpArgs false
set_option linter.unusedVariables false
open Go.RowKit
/-- What is known of the bus at b: its card at c (m bytes of the row r, which are G), the latch 0, the file F, nothing held. -/
structure BusOK (w : World) (b c r m cap : Nat) (F G : Nat → Int) : Prop where
  card : w.cell? ⟨b, 281, none⟩ = some (.pointer (some ⟨c, 0, none⟩))
  latch : w.cell? ⟨b, 282, none⟩ = some (.int .i64 0)
  hold : w.cell? ⟨b, 9261, none⟩ = some (.int .i64 255)
  file : ∀ k, k < 8 → w.cell? ⟨b, 8475 + k, none⟩ = some (.int .i64 (F k))
  free : ∀ o, w.frozen? ⟨b, o, none⟩ = false
  rom : w.cell? ⟨c, 0, none⟩ = some (.slice (some ⟨r, 0, none⟩) m cap)
  bytes : ∀ i, i < m → w.cell? ⟨r, i, none⟩ = some (.int .u8 (G i))
theorem blk {w : World} {b o : Nat} {v : Value} (h : w.cell? ⟨b, o, none⟩ = some v) : b < w.heap.size := World.block_lt_of_cell? w (a := ⟨b, o, none⟩) h
theorem BusOK.up {w w' : World} {b c r m cap : Nat} {F G : Nat → Int} (h : BusOK w b c r m cap F G) (hU : Up w w') : BusOK w' b c r m cap F G where
  card := by rw [hU.cell (blk h.card)]; exact h.card
  latch := by rw [hU.cell (blk h.card)]; exact h.latch
  hold := by rw [hU.cell (blk h.card)]; exact h.hold
  file := fun k hk => by rw [hU.cell (blk h.card)]; exact h.file k hk
  free := fun o => by rw [hU.frozen (blk h.card)]; exact h.free o
  rom := by rw [hU.cell (blk h.rom)]; exact h.rom
  bytes := fun i hi => by rw [hU.cell (blk (h.bytes i hi))]; exact h.bytes i hi
theorem romIdx (m : Nat) (phys : Int) (hk : vClass ((m : Int) / 8192) = some 0) (h0 : 0 ≤ phys) : 0 ≤ vPage ((m : Int) / 8192) 0 0 (phys / 8192) ∧ vPage ((m : Int) / 8192) 0 0 (phys / 8192) < (m : Int) / 8192 :=
  vPage_rng _ 0 0 (phys / 8192) hk (by omega)
/-- The place in the card of a place of the bus. -/
def vAt (m : Nat) (phys : Int) : Nat := (vPage ((m : Int) / 8192) 0 0 (phys / 8192) * 8192 + phys % 8192).toNat
theorem vAt_lt (m : Nat) (phys : Int) (hk : vClass ((m : Int) / 8192) = some 0) (h0 : 0 ≤ phys) : vAt m phys < m := by
  have := romIdx m phys hk h0
  unfold vAt
  omega
set_option maxHeartbeats 8000000 in
theorem read_rom (b c r m cap : Nat) (F G : Nat → Int) (phys : Int) (hm : m ≤ 131071) (hk : vClass ((m : Int) / 8192) = some 0) (h0 : 0 ≤ phys) (h1 : phys < 1048576) (hG : ∀ i, 0 ≤ G i ∧ G i < 256)
    (w : World) (H : BusOK w b c r m cap F G) :
    Calls Tryz.prog 10 #[.pointer (some ⟨b, 0, none⟩), .int .i64 phys] w fun e w' => e = .returned (.int .i64 (G (vAt m phys))) ∧ Up w w' := by
  have HN := Lib.hid (none_any b c w H.card)
  have HW := Lib.hid (where_rom phys h0 h1 w)
  have HP := Lib.hid (page_any ((m : Int) / 8192) 0 0 (phys / 8192) hk (by omega) (by omega))
  have hrng := romIdx m phys hk h0
  have hlt := vAt_lt m phys hk h0
  have HB := Lib.hid (fun w' (hw : Up w w') => byte_of c r m cap (vPage ((m : Int) / 8192) 0 0 (phys / 8192)) (phys % 8192) (G (vAt m phys)) w' (H.up hw).rom hm hrng.1 hrng.2 (by omega) (by omega) ((H.up hw).bytes _ hlt) (hG _).1 (hG _).2)
  have HPG := Lib.hid (fun w' (hw : Up w w') => pages_ptr c m cap hm _ w' (H.up hw).rom)
  have HH := Lib.hid H
  generalize vPage ((m : Int) / 8192) 0 0 (phys / 8192) = V at *
  generalize G (vAt m phys) = X at *
  clear hrng hlt hk h0 h1 hG H hm
  go_enter Tryz.func10, Tryz.ntmps10
  go_wp2_with (go_at_call 25; refine HN.out.mono ?_; rintro e w' ⟨rfl, rfl⟩)
  refine HW.out.mono ?_; rintro e w1 ⟨rfl, hU1⟩
  have HU1 := Lib.hid hU1
  clear hU1
  go_wp2_with fail
  have h1c := (HH.out.up HU1.out)
  have y0 : b < (w1.alloc (.cells #[.int .i64 0, .int .i64 (phys / 8192), .int .i64 (phys % 8192)] 67)).heap.size := by have := blk h1c.card; simp; omega
  have y1 : w1.heap.size < (w1.alloc (.cells #[.int .i64 0, .int .i64 (phys / 8192), .int .i64 (phys % 8192)] 67)).heap.size := by simp
  have z0 : (w1.alloc (.cells #[.int .i64 0, .int .i64 (phys / 8192), .int .i64 (phys % 8192)] 67)).cell? ⟨b, 281, none⟩ = some (.pointer (some ⟨c, 0, none⟩)) := ((h1c.up ((Up.refl w1).alloc _))).card
  have z1 : (w1.alloc (.cells #[.int .i64 0, .int .i64 (phys / 8192), .int .i64 (phys % 8192)] 67)).cell? ⟨b, 282, none⟩ = some (.int .i64 0) := ((h1c.up ((Up.refl w1).alloc _))).latch
  have z2 : (w1.alloc (.cells #[.int .i64 0, .int .i64 (phys / 8192), .int .i64 (phys % 8192)] 67)).cell? ⟨w1.heap.size, 1, none⟩ = some (.int .i64 (phys / 8192)) := by go_simp
  have z3 : (w1.alloc (.cells #[.int .i64 0, .int .i64 (phys / 8192), .int .i64 (phys % 8192)] 67)).cell? ⟨w1.heap.size, 2, none⟩ = some (.int .i64 (phys % 8192)) := by go_simp
  have HU0 := Lib.hid (HU1.out.alloc (.cells #[.int .i64 0, .int .i64 (phys / 8192), .int .i64 (phys % 8192)] 67))
  clear h1c
  generalize (w1.alloc (.cells #[.int .i64 0, .int .i64 (phys / 8192), .int .i64 (phys % 8192)] 67)) = W0 at *
  have HPG := Lib.hid (fun w' (hw : Up W0 w') => HPG.out w' (HU0.out.trans hw))
  have HB := Lib.hid (fun w' (hw : Up W0 w') => HB.out w' (HU0.out.trans hw))
  go_region_held3 (fun w' => Up W0 w' ∧ ∀ b o, b < W0.heap.size → w'.cell? ⟨b, o, none⟩ = W0.cell? ⟨b, o, none⟩) (first | exact ⟨by assumption, by assumption⟩ | go_keep) (first | (go_at_call 6; refine (HPG.out _ (by first | assumption | exact Up.drew (by assumption) | exact Up.refl _ | exact Up.drew (Up.refl _))).mono ?_; rintro e w3 ⟨rfl, rfl⟩) | (go_at_call 27; refine (HB.out _ (by first | assumption | exact Up.drew (by assumption) | exact Up.refl _ | exact Up.drew (Up.refl _))).mono ?_; rintro e w3 ⟨rfl, rfl⟩) | (go_at_call 9; refine (HP.out _).mono ?_; rintro e w3 ⟨rfl, hB3⟩; have hU3 : Up W0 w3 := (by first | exact Up.trans (by assumption) hB3 | exact Up.trans (Up.drew (Up.refl W0)) hB3); have hc3 : ∀ b o, b < W0.heap.size → w3.cell? ⟨b, o, none⟩ = W0.cell? ⟨b, o, none⟩ := (fun b o hb => hU3.cell hb)))
  go_wp2_with fail
  go_ret
  exact ⟨rfl, HU0.out.trans (by repeat (first | assumption | refine Up.drew ?_ | refine Up.drewN ?_ _))⟩
end Go.Proofs.YteepfbcialekeaaGreatDoor
