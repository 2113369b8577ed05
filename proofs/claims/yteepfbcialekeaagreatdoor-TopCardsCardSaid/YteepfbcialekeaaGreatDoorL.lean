/- Contract of (*Bus).Write where a plain card lies. -/
import Derived.Test.YteepfbcialekeaaGreatDoorK
namespace Go.Proofs.YteepfbcialekeaaGreatDoor
set_option linter.unusedSimpArgs false
set_option linter.unusedVariables false
open Go.RowKit
theorem BusOK.latched {w : World} {b c r m cap : Nat} {F G : Nat → Int} (h : BusOK w b c r m cap F G) : BusOK (w.setCell ⟨b, 282, none⟩ (.int .i64 0)) b c r m cap F G where
  card := by rw [World.cell?_setCell_other _ _ _ _ (by simp)]; exact h.card
  latch := World.cell?_setCell_same _ _ _ h.latch
  hold := by rw [World.cell?_setCell_other _ _ _ _ (by simp)]; exact h.hold
  file := fun k hk => by rw [World.cell?_setCell_other _ _ _ _ (fun h => by have := congrArg Addr.off h; simp at this; omega)]; exact h.file k hk
  free := fun o => by simpa using h.free o
  rom := by rw [World.cell?_setCell_other _ _ _ _ (by simp)]; exact h.rom
  bytes := fun i hi => by
    by_cases hrb : r = b ∧ i = 282
    · obtain ⟨rfl, rfl⟩ := hrb
      have := (h.bytes _ hi).symm.trans h.latch
      cases this
    · rw [World.cell?_setCell_other _ _ _ _ (by simp; intro a b; exact hrb ⟨a.symm, b.symm⟩)]; exact h.bytes i hi
/-- What a write into the card keeps. -/
structure WQ (a : World) (b c r m cap : Nat) (F G : Nat → Int) (P : Nat) (w : World) : Prop where
  ok : BusOK w b c r m cap F G
  up : Up a w
  old : a.heap.size ≤ b
  place : w.cell? ⟨P, 0, none⟩ = some (.int .i64 0)
  apart : b ≠ P
variable {a w w' : World} {b c r m cap P : Nat} {F G : Nat → Int}
theorem WQ.on (h : WQ a b c r m cap F G P w) (hU : Up w w') : WQ a b c r m cap F G P w' :=
  ⟨h.ok.up hU, h.up.trans hU, h.old, by rw [hU.cell (blk h.place)]; exact h.place, h.apart⟩
theorem WQ.drew (h : WQ a b c r m cap F G P w) : WQ a b c r m cap F G P w.drew := h.on (Up.refl w).drew
theorem WQ.set (h : WQ a b c r m cap F G P w) : WQ a b c r m cap F G P (w.setCell ⟨b, 282, none⟩ (.int .i64 0)) :=
  ⟨h.ok.latched, h.up.setCell h.old _, h.old, by rw [World.cell?_setCell_other _ _ _ _ (by intro k; cases k)]; exact h.place, h.apart⟩
set_option maxHeartbeats 8000000 in
theorem write_rom (b c r m cap : Nat) (F G : Nat → Int) (phys v : Int) (hm : m ≤ 131071) (hk : vClass ((m : Int) / 8192) = some 0) (h0 : 0 ≤ phys) (h1 : phys < 1048576)
    (a w : World) (ha : a.heap.size ≤ b) (hA : Up a w) (H : BusOK w b c r m cap F G) :
    Calls Tryz.prog 11 #[.pointer (some ⟨b, 0, none⟩), .int .i64 phys, .int .i64 v] w fun e w' => e = .returned (.tuple #[]) ∧ BusOK w' b c r m cap F G ∧ Up a w' := by
  have HN := Lib.hid (none_any b c w H.card)
  have HW := Lib.hid (where_rom phys h0 h1 w)
  have HP := Lib.hid (latch_plain ((m : Int) / 8192) 0 phys hk)
  have HM := Lib.hid hm
  have HH := Lib.hid H
  have HAA := Lib.hid hA
  have HA := Lib.hid ha
  clear hk h0 h1 H hm hA ha
  go_enter Tryz.func11, Tryz.ntmps11
  go_wp2_with (first | (go_at_call 25; refine HN.out.mono ?_; rintro e w' ⟨rfl, rfl⟩) | (go_at_call 30; refine (byte_any _ _).mono ?_; rintro e w' ⟨rfl, rfl⟩))
  refine HW.out.mono ?_; rintro e w1 ⟨rfl, hU1⟩
  have HU1 := Lib.hid hU1
  clear hU1
  go_wp2_with fail
  have q0 : WQ a b c r m cap F G w1.heap.size (w1.alloc (.cells #[.int .i64 0, .int .i64 (phys / 8192), .int .i64 (phys % 8192)] 67)) :=
    ⟨(HH.out.up HU1.out).up ((Up.refl w1).alloc _), (HAA.out.trans HU1.out).alloc _, HA.out, by go_simp, Nat.ne_of_lt (Nat.lt_of_lt_of_le (blk HH.out.card) HU1.out.size)⟩
  have HU0 := Lib.hid (HU1.out.alloc (.cells #[.int .i64 0, .int .i64 (phys / 8192), .int .i64 (phys % 8192)] 67))
  generalize (w1.alloc (.cells #[.int .i64 0, .int .i64 (phys / 8192), .int .i64 (phys % 8192)] 67)) = W0 at *
  have KS := Lib.hid (show ∀ w', WQ a b c r m cap F G w1.heap.size w' → w'.cell? ⟨b, 281, none⟩ = some (.pointer (some ⟨c, 0, none⟩)) ∧ w'.cell? ⟨b, 282, none⟩ = some (.int .i64 0) ∧ w'.frozen? ⟨b, 282, none⟩ = false ∧ w'.cell? ⟨w1.heap.size, 0, none⟩ = some (.int .i64 0) ∧ WQ a b c r m cap F G w1.heap.size w' from fun w' h => ⟨h.ok.card, h.ok.latch, h.ok.free _, h.place, h⟩)
  have HPG := Lib.hid (fun w' (hq : WQ a b c r m cap F G w1.heap.size w') => pages_ptr c m cap HM.out _ w' hq.ok.rom)
  obtain ⟨z0, z1, z2, z3, -⟩ := KS.out _ q0
  go_region_held3 (fun w' => w'.cell? ⟨b, 281, none⟩ = some (.pointer (some ⟨c, 0, none⟩)) ∧ w'.cell? ⟨b, 282, none⟩ = some (.int .i64 0) ∧ w'.frozen? ⟨b, 282, none⟩ = false ∧ w'.cell? ⟨w1.heap.size, 0, none⟩ = some (.int .i64 0) ∧ WQ a b c r m cap F G w1.heap.size w') (exact KS.out _ (by first | assumption | exact WQ.drew (by assumption) | exact WQ.set (by assumption) | exact WQ.set (WQ.drew (by assumption)))) (first | (go_at_call 6; refine (HPG.out _ (by first | assumption | exact WQ.drew (by assumption))).mono ?_; rintro e w3 ⟨rfl, rfl⟩) | (go_at_call 12; refine (HP.out _).mono ?_; rintro e w3 ⟨rfl, hB3⟩; have hQ3 := WQ.on (by first | assumption | exact WQ.drew (by assumption)) hB3))
  obtain ⟨-, -, -, z5, q5⟩ := KS.out _ (WQ.set hQ3)
  generalize w3.setCell ⟨b, 282, none⟩ (.int .i64 0) = W1 at *
  go_wp2_with (go_at_call 38; refine (held_rom _).mono ?_; rintro e w' ⟨rfl, rfl⟩)
  go_end0
  exact ⟨rfl, q5.ok, q5.up⟩
end Go.Proofs.YteepfbcialekeaaGreatDoor
