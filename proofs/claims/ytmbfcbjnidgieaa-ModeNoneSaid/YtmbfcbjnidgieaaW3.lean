/- The walk of the law ModeNone: it returns true. -/
import Derived.Test.YtmbfcbjnidgieaaA
import Derived.Test.YtmbfcbjnidgieaaOP
namespace Go.Proofs.Ytmbfcbjnidgieaa
open Go.RowKit
attribute [local go_sem] BM.and127 BM.and255 BM.and65535

set_option maxHeartbeats 8000000 in
set_option maxRecDepth 100000 in
theorem walk_modeNone (c0 : List Value) (f0 : OP.FitsAll [true, true] c0) (o : Int) (_ho : -9223372036854775808 ≤ o ∧ o ≤ 9223372036854775807) (p : Int) (_hp : -9223372036854775808 ≤ p ∧ p ≤ 9223372036854775807) (w : World) :
    Calls Try.prog 5 #[.agg ⟨c0⟩, .int .i64 o, .int .i64 p] w fun e w' => e = .returned (.bool true) ∧ Below w.heap.size w w' := by
  obtain ⟨x, r0, rfl, hx, g1⟩ := OP.cons_int f0
  obtain ⟨y, r1, rfl, hy, g2⟩ := OP.cons_int g1
  obtain rfl := OP.none_left g2
  clear f0 g1 g2
  obtain ⟨X, hX⟩ : ∃ a, x % 256 = a := ⟨_, rfl⟩
  obtain ⟨Y, hY⟩ : ∃ a, y % 256 = a := ⟨_, rfl⟩
  obtain ⟨P, hP⟩ : ∃ a, p % 65536 = a := ⟨_, rfl⟩
  have X0 : 0 ≤ X := by omega
  have Y0 : 0 ≤ Y := by omega
  have Y1 : Y ≤ 255 := by omega
  have P0 : 0 ≤ P := by omega
  have P1 : P ≤ 65535 := by omega
  have t1 : (P != P) = false := by simp
  have t2 : ((P + Y) % 65536 != (P + Y) % 65536) = false := by simp
  go_enter Try.func5, Try.ntmps5
  go_wp2_with fail
  go_loopw [7] (fun i wr => ∃ k : Nat, k ≤ 21 ∧ i = .int .i64 k ∧ Up (w.alloc (.cells #[.int .i64 X, .int .i64 Y] 25)) wr) (fun i _ => 21 - (intOf i).toNat)
  case atStart => exact ⟨0, by omega, rfl, Up.refl _⟩
  case round =>
    obtain ⟨k, hk, rfl, hU⟩ := hrel
    have hc0 : wr.cell? ⟨w.heap.size, 0, none⟩ = some (.int .i64 X) := by rw [hU.cell (by simp)]; go_simp
    have hc1 : wr.cell? ⟨w.heap.size, 1, none⟩ = some (.int .i64 Y) := by rw [hU.cell (by simp)]; go_simp
    have hwr : w.heap.size < wr.heap.size := by have := hU.size; simp only [World.size_alloc] at this; omega
    have hk5 : k = 0 ∨ k = 1 ∨ k = 2 ∨ k = 3 ∨ k = 4 ∨ k = 5 ∨ k = 6 ∨ k = 7 ∨ k = 8 ∨ k = 9 ∨ k = 10 ∨ k = 11 ∨ k = 12 ∨ k = 13 ∨ k = 14 ∨ k = 15 ∨ k = 16 ∨ k = 17 ∨ k = 18 ∨ k = 19 ∨ k = 20 ∨ k = 21 := by omega
    rcases hk5 with rfl | rfl | rfl | rfl | rfl | rfl | rfl | rfl | rfl | rfl | rfl | rfl | rfl | rfl | rfl | rfl | rfl | rfl | rfl | rfl | rfl | rfl
    · skip
      have HA := Lib.hid (fun w => address_none 0 X Y o P w (by decide +kernel))
      have HP := Lib.hid (fun w => pointer_none 0 X o w (by decide +kernel))
      go_wp2_with fail
      refine (HA.out _).mono ?_; rintro e w1 ⟨rfl, hU1⟩
      obtain ⟨hc2, hf2, _⟩ := hU1.facts
      go_wp2_with fail
      refine (HP.out _).mono ?_; rintro e w2 ⟨rfl, rfl⟩
      go_wp2
      go_roundw
      case rel => exact ⟨1, by omega, by go_num, hU.trans hU1⟩
      case measure => simp [intOf]
    · skip
      have HA := Lib.hid (fun w => address_none 1 X Y o P w (by decide +kernel))
      have HP := Lib.hid (fun w => pointer_none 1 X o w (by decide +kernel))
      go_wp2_with fail
      refine (HA.out _).mono ?_; rintro e w1 ⟨rfl, hU1⟩
      obtain ⟨hc2, hf2, _⟩ := hU1.facts
      go_wp2_with fail
      refine (HP.out _).mono ?_; rintro e w2 ⟨rfl, rfl⟩
      go_wp2
      go_roundw
      case rel => exact ⟨2, by omega, by go_num, hU.trans hU1⟩
      case measure => simp [intOf]
    · skip
      have HA := Lib.hid (fun w => address_none 2 X Y o P w (by decide +kernel))
      have HP := Lib.hid (fun w => pointer_none 2 X o w (by decide +kernel))
      go_wp2_with fail
      refine (HA.out _).mono ?_; rintro e w1 ⟨rfl, hU1⟩
      obtain ⟨hc2, hf2, _⟩ := hU1.facts
      go_wp2_with fail
      refine (HP.out _).mono ?_; rintro e w2 ⟨rfl, rfl⟩
      go_wp2
      go_roundw
      case rel => exact ⟨3, by omega, by go_num, hU.trans hU1⟩
      case measure => simp [intOf]
    · skip
      have HA := Lib.hid (fun w => address_3 X Y o P w)
      have a0 : 0 ≤ 8192 + o % 256 := by omega
      have a1 : 8192 + o % 256 ≤ 65535 := by omega
      have HP := Lib.hid (fun w => pointer_none 3 X o w (by decide +kernel))
      go_wp2_with fail
      refine (HA.out _).mono ?_; rintro e w1 ⟨rfl, hU1⟩
      obtain ⟨hc2, hf2, _⟩ := hU1.facts
      go_wp2_with fail
      refine (HP.out _).mono ?_; rintro e w2 ⟨rfl, rfl⟩
      go_wp2
      go_roundw
      case rel => exact ⟨4, by omega, by go_num, hU.trans hU1⟩
      case measure => simp [intOf]
    · skip
      have HA := Lib.hid (fun w => address_4 X Y o P w)
      have a0 : 0 ≤ 8192 + (o + X) % 256 := by omega
      have a1 : 8192 + (o + X) % 256 ≤ 65535 := by omega
      have HP := Lib.hid (fun w => pointer_none 4 X o w (by decide +kernel))
      go_wp2_with fail
      refine (HA.out _).mono ?_; rintro e w1 ⟨rfl, hU1⟩
      obtain ⟨hc2, hf2, _⟩ := hU1.facts
      go_wp2_with fail
      refine (HP.out _).mono ?_; rintro e w2 ⟨rfl, rfl⟩
      go_wp2
      go_roundw
      case rel => exact ⟨5, by omega, by go_num, hU.trans hU1⟩
      case measure => simp [intOf]
    · skip
      have HA := Lib.hid (fun w => address_5 X Y o P w)
      have a0 : 0 ≤ 8192 + (o + Y) % 256 := by omega
      have a1 : 8192 + (o + Y) % 256 ≤ 65535 := by omega
      have HP := Lib.hid (fun w => pointer_none 5 X o w (by decide +kernel))
      go_wp2_with fail
      refine (HA.out _).mono ?_; rintro e w1 ⟨rfl, hU1⟩
      obtain ⟨hc2, hf2, _⟩ := hU1.facts
      go_wp2_with fail
      refine (HP.out _).mono ?_; rintro e w2 ⟨rfl, rfl⟩
      go_wp2
      go_roundw
      case rel => exact ⟨6, by omega, by go_num, hU.trans hU1⟩
      case measure => simp [intOf]
    · skip
      have HA := Lib.hid (show ∀ w, Calls Try.prog 7 #[.int .i64 6, .agg #[.int .i64 X, .int .i64 Y], .int .i64 o, .int .i64 P] w (fun e w' => e = .returned (.tuple #[.int .i64 P, .bool true]) ∧ Up w w') from fun w => by have h := address_6 X Y o P w; rw [show P % 65536 = P by omega] at h; exact h)
      have HP := Lib.hid (fun w => pointer_6 X o w)
      have b0 : 8192 ≤ 8192 + (o + X) % 256 := by omega
      have b1 : 8192 + (o + X) % 256 ≤ 8447 := by omega
      go_wp2_with fail
      refine (HA.out _).mono ?_; rintro e w1 ⟨rfl, hU1⟩
      obtain ⟨hc2, hf2, _⟩ := hU1.facts
      go_wp2_with fail
      refine (HP.out _).mono ?_; rintro e w2 ⟨rfl, rfl⟩
      go_wp2
      go_roundw
      case rel => exact ⟨7, by omega, by go_num, hU.trans hU1⟩
      case measure => simp [intOf]
    · skip
      have HA := Lib.hid (fun w => address_7 X Y o P w)
      have a0 : 0 ≤ (P + Y) % 65536 := by omega
      have a1 : (P + Y) % 65536 ≤ 65535 := by omega
      have HP := Lib.hid (fun w => pointer_7 X o w)
      have b0 : 8192 ≤ 8192 + o % 256 := by omega
      have b1 : 8192 + o % 256 ≤ 8447 := by omega
      go_wp2_with fail
      refine (HA.out _).mono ?_; rintro e w1 ⟨rfl, hU1⟩
      obtain ⟨hc2, hf2, _⟩ := hU1.facts
      go_wp2_with fail
      refine (HP.out _).mono ?_; rintro e w2 ⟨rfl, rfl⟩
      go_wp2
      go_roundw
      case rel => exact ⟨8, by omega, by go_num, hU.trans hU1⟩
      case measure => simp [intOf]
    · skip
      have HA := Lib.hid (show ∀ w, Calls Try.prog 7 #[.int .i64 8, .agg #[.int .i64 X, .int .i64 Y], .int .i64 o, .int .i64 P] w (fun e w' => e = .returned (.tuple #[.int .i64 P, .bool true]) ∧ Up w w') from fun w => by have h := address_8 X Y o P w; rw [show P % 65536 = P by omega] at h; exact h)
      have HP := Lib.hid (fun w => pointer_8 X o w)
      have b0 : 8192 ≤ 8192 + o % 256 := by omega
      have b1 : 8192 + o % 256 ≤ 8447 := by omega
      go_wp2_with fail
      refine (HA.out _).mono ?_; rintro e w1 ⟨rfl, hU1⟩
      obtain ⟨hc2, hf2, _⟩ := hU1.facts
      go_wp2_with fail
      refine (HP.out _).mono ?_; rintro e w2 ⟨rfl, rfl⟩
      go_wp2
      go_roundw
      case rel => exact ⟨9, by omega, by go_num, hU.trans hU1⟩
      case measure => simp [intOf]
    · skip
      have HA := Lib.hid (fun w => address_9 X Y o P w)
      have a0 : 0 ≤ o % 65536 := by omega
      have a1 : o % 65536 ≤ 65535 := by omega
      have HP := Lib.hid (fun w => pointer_none 9 X o w (by decide +kernel))
      go_wp2_with fail
      refine (HA.out _).mono ?_; rintro e w1 ⟨rfl, hU1⟩
      obtain ⟨hc2, hf2, _⟩ := hU1.facts
      go_wp2_with fail
      refine (HP.out _).mono ?_; rintro e w2 ⟨rfl, rfl⟩
      go_wp2
      go_roundw
      case rel => exact ⟨10, by omega, by go_num, hU.trans hU1⟩
      case measure => simp [intOf]
    · skip
      have HA := Lib.hid (fun w => address_10 X Y o P w)
      have a0 : 0 ≤ (o + X) % 65536 := by omega
      have a1 : (o + X) % 65536 ≤ 65535 := by omega
      have HP := Lib.hid (fun w => pointer_none 10 X o w (by decide +kernel))
      go_wp2_with fail
      refine (HA.out _).mono ?_; rintro e w1 ⟨rfl, hU1⟩
      obtain ⟨hc2, hf2, _⟩ := hU1.facts
      go_wp2_with fail
      refine (HP.out _).mono ?_; rintro e w2 ⟨rfl, rfl⟩
      go_wp2
      go_roundw
      case rel => exact ⟨11, by omega, by go_num, hU.trans hU1⟩
      case measure => simp [intOf]
    · skip
      have HA := Lib.hid (fun w => address_11 X Y o P w)
      have a0 : 0 ≤ (o + Y) % 65536 := by omega
      have a1 : (o + Y) % 65536 ≤ 65535 := by omega
      have HP := Lib.hid (fun w => pointer_none 11 X o w (by decide +kernel))
      go_wp2_with fail
      refine (HA.out _).mono ?_; rintro e w1 ⟨rfl, hU1⟩
      obtain ⟨hc2, hf2, _⟩ := hU1.facts
      go_wp2_with fail
      refine (HP.out _).mono ?_; rintro e w2 ⟨rfl, rfl⟩
      go_wp2
      go_roundw
      case rel => exact ⟨12, by omega, by go_num, hU.trans hU1⟩
      case measure => simp [intOf]
    · skip
      have HA := Lib.hid (show ∀ w, Calls Try.prog 7 #[.int .i64 12, .agg #[.int .i64 X, .int .i64 Y], .int .i64 o, .int .i64 P] w (fun e w' => e = .returned (.tuple #[.int .i64 P, .bool true]) ∧ Up w w') from fun w => by have h := address_12 X Y o P w; rw [show P % 65536 = P by omega] at h; exact h)
      have HP := Lib.hid (fun w => pointer_12 X o w)
      go_wp2_with fail
      refine (HA.out _).mono ?_; rintro e w1 ⟨rfl, hU1⟩
      obtain ⟨hc2, hf2, _⟩ := hU1.facts
      go_wp2_with fail
      refine (HP.out _).mono ?_; rintro e w2 ⟨rfl, rfl⟩
      go_wp2
      go_roundw
      case rel => exact ⟨13, by omega, by go_num, hU.trans hU1⟩
      case measure => simp [intOf]
    · skip
      have HA := Lib.hid (show ∀ w, Calls Try.prog 7 #[.int .i64 13, .agg #[.int .i64 X, .int .i64 Y], .int .i64 o, .int .i64 P] w (fun e w' => e = .returned (.tuple #[.int .i64 P, .bool true]) ∧ Up w w') from fun w => by have h := address_13 X Y o P w; rw [show P % 65536 = P by omega] at h; exact h)
      have HP := Lib.hid (fun w => pointer_13 X o w)
      go_wp2_with fail
      refine (HA.out _).mono ?_; rintro e w1 ⟨rfl, hU1⟩
      obtain ⟨hc2, hf2, _⟩ := hU1.facts
      go_wp2_with fail
      refine (HP.out _).mono ?_; rintro e w2 ⟨rfl, rfl⟩
      go_wp2
      go_roundw
      case rel => exact ⟨14, by omega, by go_num, hU.trans hU1⟩
      case measure => simp [intOf]
    · skip
      have HA := Lib.hid (fun w => address_none 14 X Y o P w (by decide +kernel))
      have HP := Lib.hid (fun w => pointer_none 14 X o w (by decide +kernel))
      go_wp2_with fail
      refine (HA.out _).mono ?_; rintro e w1 ⟨rfl, hU1⟩
      obtain ⟨hc2, hf2, _⟩ := hU1.facts
      go_wp2_with fail
      refine (HP.out _).mono ?_; rintro e w2 ⟨rfl, rfl⟩
      go_wp2
      go_roundw
      case rel => exact ⟨15, by omega, by go_num, hU.trans hU1⟩
      case measure => simp [intOf]
    · skip
      have HA := Lib.hid (fun w => address_15 X Y o P w)
      have a0 : 0 ≤ 8192 + o % 256 := by omega
      have a1 : 8192 + o % 256 ≤ 65535 := by omega
      have HP := Lib.hid (fun w => pointer_none 15 X o w (by decide +kernel))
      go_wp2_with fail
      refine (HA.out _).mono ?_; rintro e w1 ⟨rfl, hU1⟩
      obtain ⟨hc2, hf2, _⟩ := hU1.facts
      go_wp2_with fail
      refine (HP.out _).mono ?_; rintro e w2 ⟨rfl, rfl⟩
      go_wp2
      go_roundw
      case rel => exact ⟨16, by omega, by go_num, hU.trans hU1⟩
      case measure => simp [intOf]
    · skip
      have HA := Lib.hid (fun w => address_none 16 X Y o P w (by decide +kernel))
      have HP := Lib.hid (fun w => pointer_none 16 X o w (by decide +kernel))
      go_wp2_with fail
      refine (HA.out _).mono ?_; rintro e w1 ⟨rfl, hU1⟩
      obtain ⟨hc2, hf2, _⟩ := hU1.facts
      go_wp2_with fail
      refine (HP.out _).mono ?_; rintro e w2 ⟨rfl, rfl⟩
      go_wp2
      go_roundw
      case rel => exact ⟨17, by omega, by go_num, hU.trans hU1⟩
      case measure => simp [intOf]
    · skip
      have HA := Lib.hid (fun w => address_17 X Y o P w)
      have a0 : 0 ≤ 8192 + o % 256 := by omega
      have a1 : 8192 + o % 256 ≤ 65535 := by omega
      have HP := Lib.hid (fun w => pointer_none 17 X o w (by decide +kernel))
      go_wp2_with fail
      refine (HA.out _).mono ?_; rintro e w1 ⟨rfl, hU1⟩
      obtain ⟨hc2, hf2, _⟩ := hU1.facts
      go_wp2_with fail
      refine (HP.out _).mono ?_; rintro e w2 ⟨rfl, rfl⟩
      go_wp2
      go_roundw
      case rel => exact ⟨18, by omega, by go_num, hU.trans hU1⟩
      case measure => simp [intOf]
    · skip
      have HA := Lib.hid (fun w => address_18 X Y o P w)
      have a0 : 0 ≤ 8192 + (o + X) % 256 := by omega
      have a1 : 8192 + (o + X) % 256 ≤ 65535 := by omega
      have HP := Lib.hid (fun w => pointer_none 18 X o w (by decide +kernel))
      go_wp2_with fail
      refine (HA.out _).mono ?_; rintro e w1 ⟨rfl, hU1⟩
      obtain ⟨hc2, hf2, _⟩ := hU1.facts
      go_wp2_with fail
      refine (HP.out _).mono ?_; rintro e w2 ⟨rfl, rfl⟩
      go_wp2
      go_roundw
      case rel => exact ⟨19, by omega, by go_num, hU.trans hU1⟩
      case measure => simp [intOf]
    · skip
      have HA := Lib.hid (fun w => address_19 X Y o P w)
      have a0 : 0 ≤ o % 65536 := by omega
      have a1 : o % 65536 ≤ 65535 := by omega
      have HP := Lib.hid (fun w => pointer_none 19 X o w (by decide +kernel))
      go_wp2_with fail
      refine (HA.out _).mono ?_; rintro e w1 ⟨rfl, hU1⟩
      obtain ⟨hc2, hf2, _⟩ := hU1.facts
      go_wp2_with fail
      refine (HP.out _).mono ?_; rintro e w2 ⟨rfl, rfl⟩
      go_wp2
      go_roundw
      case rel => exact ⟨20, by omega, by go_num, hU.trans hU1⟩
      case measure => simp [intOf]
    · skip
      have HA := Lib.hid (fun w => address_20 X Y o P w)
      have a0 : 0 ≤ (o + X) % 65536 := by omega
      have a1 : (o + X) % 65536 ≤ 65535 := by omega
      have HP := Lib.hid (fun w => pointer_none 20 X o w (by decide +kernel))
      go_wp2_with fail
      refine (HA.out _).mono ?_; rintro e w1 ⟨rfl, hU1⟩
      obtain ⟨hc2, hf2, _⟩ := hU1.facts
      go_wp2_with fail
      refine (HP.out _).mono ?_; rintro e w2 ⟨rfl, rfl⟩
      go_wp2
      go_roundw
      case rel => exact ⟨21, by omega, by go_num, hU.trans hU1⟩
      case measure => simp [intOf]
    · have HA := Lib.hid (fun w => address_none 21 X Y o P w (by decide +kernel))
      go_wp2_with fail
      refine (HA.out _).mono ?_; rintro e w1 ⟨rfl, hU1⟩
      go_wp2
      go_ret
      exact ⟨ret_bool rfl, ((Up.refl _).alloc _).trans (hU.trans hU1)⟩
end Go.Proofs.Ytmbfcbjnidgieaa
