/- Contracts of the functions of the package mpr and of its reference: the rest. -/
import Derived.Test.YthgcagnfjldlfaaA
import Derived.Deep.RegionHeld3
namespace Go.Proofs.Ythgcagnfjldlfaa
open Go.RowKit
attribute [local go_sem] idx0 idx1 idx2 idx3 idx4 idx5 idx6 idx7

def vTam (F : Nat → Int) (m b : Int) (i : Nat) : Int := if BM.vBit m i = 1 then b % 256 else F i
def vG (F : Nat → Int) (m b : Int) (j i : Nat) : Int := if i < j then vTam F m b i else F i
set_option maxHeartbeats 4000000 in
theorem tam_any (F : Nat → Int) (m b : Int) (w : World) : Calls Try.prog 8 #[.agg #[.int .i64 (F 0), .int .i64 (F 1), .int .i64 (F 2), .int .i64 (F 3), .int .i64 (F 4), .int .i64 (F 5), .int .i64 (F 6), .int .i64 (F 7)], .int .i64 m, .int .i64 b] w fun e w' => e = .returned (.agg #[.int .i64 (vTam F m b 0), .int .i64 (vTam F m b 1), .int .i64 (vTam F m b 2), .int .i64 (vTam F m b 3), .int .i64 (vTam F m b 4), .int .i64 (vTam F m b 5), .int .i64 (vTam F m b 6), .int .i64 (vTam F m b 7)]) ∧ Up w w' := by
  go_enter Try.func8, Try.ntmps8
  go_wp2_with fail
  go_loopw [8] (fun i wr => ∃ j : Nat, j ≤ 8 ∧ i = .int .i64 j ∧ (w.alloc (.cells #[.int .i64 (vG F m b j 0), .int .i64 (vG F m b j 1), .int .i64 (vG F m b j 2), .int .i64 (vG F m b j 3), .int .i64 (vG F m b j 4), .int .i64 (vG F m b j 5), .int .i64 (vG F m b j 6), .int .i64 (vG F m b j 7)] 24)).alloc (.cells #[.int .i64 0, .int .i64 0, .int .i64 0, .int .i64 0, .int .i64 0, .int .i64 0, .int .i64 0, .int .i64 0] 24) = wr) (fun i _ => 8 - (intOf i).toNat)
  case atStart => exact ⟨0, by omega, rfl, by simp [vG]⟩
  case round =>
    obtain ⟨j, hj, rfl, rfl⟩ := hrel
    have hjs : j = 0 ∨ j = 1 ∨ j = 2 ∨ j = 3 ∨ j = 4 ∨ j = 5 ∨ j = 6 ∨ j = 7 ∨ j = 8 := by omega
    rcases hjs with rfl | rfl | rfl | rfl | rfl | rfl | rfl | rfl | rfl
    · by_cases hb : BM.vBit m 0 = 1
      · have hbb : (BM.vBit m 0 == 1) = true := beq_iff_eq.2 hb
        go_wp2_with (first | (go_at_call 17; refine (bit_any _ _ _).mono ?_; rintro e w' ⟨rfl, rfl⟩) | (go_at_call 18; refine (byte_any _ _).mono ?_; rintro e w' ⟨rfl, rfl⟩))
        go_roundw
        case rel => exact ⟨1, by omega, rfl, by simp [vG, vTam, hb]⟩
        case measure => simp [intOf]
      · have hbb : (BM.vBit m 0 == 1) = false := by simpa using hb
        go_wp2_with (first | (go_at_call 17; refine (bit_any _ _ _).mono ?_; rintro e w' ⟨rfl, rfl⟩) | (go_at_call 18; refine (byte_any _ _).mono ?_; rintro e w' ⟨rfl, rfl⟩))
        go_roundw
        case rel => exact ⟨1, by omega, rfl, by simp [vG, vTam, hb]⟩
        case measure => simp [intOf]
    · by_cases hb : BM.vBit m 1 = 1
      · have hbb : (BM.vBit m 1 == 1) = true := beq_iff_eq.2 hb
        go_wp2_with (first | (go_at_call 17; refine (bit_any _ _ _).mono ?_; rintro e w' ⟨rfl, rfl⟩) | (go_at_call 18; refine (byte_any _ _).mono ?_; rintro e w' ⟨rfl, rfl⟩))
        go_roundw
        case rel => exact ⟨2, by omega, rfl, by simp [vG, vTam, hb]⟩
        case measure => simp [intOf]
      · have hbb : (BM.vBit m 1 == 1) = false := by simpa using hb
        go_wp2_with (first | (go_at_call 17; refine (bit_any _ _ _).mono ?_; rintro e w' ⟨rfl, rfl⟩) | (go_at_call 18; refine (byte_any _ _).mono ?_; rintro e w' ⟨rfl, rfl⟩))
        go_roundw
        case rel => exact ⟨2, by omega, rfl, by simp [vG, vTam, hb]⟩
        case measure => simp [intOf]
    · by_cases hb : BM.vBit m 2 = 1
      · have hbb : (BM.vBit m 2 == 1) = true := beq_iff_eq.2 hb
        go_wp2_with (first | (go_at_call 17; refine (bit_any _ _ _).mono ?_; rintro e w' ⟨rfl, rfl⟩) | (go_at_call 18; refine (byte_any _ _).mono ?_; rintro e w' ⟨rfl, rfl⟩))
        go_roundw
        case rel => exact ⟨3, by omega, rfl, by simp [vG, vTam, hb]⟩
        case measure => simp [intOf]
      · have hbb : (BM.vBit m 2 == 1) = false := by simpa using hb
        go_wp2_with (first | (go_at_call 17; refine (bit_any _ _ _).mono ?_; rintro e w' ⟨rfl, rfl⟩) | (go_at_call 18; refine (byte_any _ _).mono ?_; rintro e w' ⟨rfl, rfl⟩))
        go_roundw
        case rel => exact ⟨3, by omega, rfl, by simp [vG, vTam, hb]⟩
        case measure => simp [intOf]
    · by_cases hb : BM.vBit m 3 = 1
      · have hbb : (BM.vBit m 3 == 1) = true := beq_iff_eq.2 hb
        go_wp2_with (first | (go_at_call 17; refine (bit_any _ _ _).mono ?_; rintro e w' ⟨rfl, rfl⟩) | (go_at_call 18; refine (byte_any _ _).mono ?_; rintro e w' ⟨rfl, rfl⟩))
        go_roundw
        case rel => exact ⟨4, by omega, rfl, by simp [vG, vTam, hb]⟩
        case measure => simp [intOf]
      · have hbb : (BM.vBit m 3 == 1) = false := by simpa using hb
        go_wp2_with (first | (go_at_call 17; refine (bit_any _ _ _).mono ?_; rintro e w' ⟨rfl, rfl⟩) | (go_at_call 18; refine (byte_any _ _).mono ?_; rintro e w' ⟨rfl, rfl⟩))
        go_roundw
        case rel => exact ⟨4, by omega, rfl, by simp [vG, vTam, hb]⟩
        case measure => simp [intOf]
    · by_cases hb : BM.vBit m 4 = 1
      · have hbb : (BM.vBit m 4 == 1) = true := beq_iff_eq.2 hb
        go_wp2_with (first | (go_at_call 17; refine (bit_any _ _ _).mono ?_; rintro e w' ⟨rfl, rfl⟩) | (go_at_call 18; refine (byte_any _ _).mono ?_; rintro e w' ⟨rfl, rfl⟩))
        go_roundw
        case rel => exact ⟨5, by omega, rfl, by simp [vG, vTam, hb]⟩
        case measure => simp [intOf]
      · have hbb : (BM.vBit m 4 == 1) = false := by simpa using hb
        go_wp2_with (first | (go_at_call 17; refine (bit_any _ _ _).mono ?_; rintro e w' ⟨rfl, rfl⟩) | (go_at_call 18; refine (byte_any _ _).mono ?_; rintro e w' ⟨rfl, rfl⟩))
        go_roundw
        case rel => exact ⟨5, by omega, rfl, by simp [vG, vTam, hb]⟩
        case measure => simp [intOf]
    · by_cases hb : BM.vBit m 5 = 1
      · have hbb : (BM.vBit m 5 == 1) = true := beq_iff_eq.2 hb
        go_wp2_with (first | (go_at_call 17; refine (bit_any _ _ _).mono ?_; rintro e w' ⟨rfl, rfl⟩) | (go_at_call 18; refine (byte_any _ _).mono ?_; rintro e w' ⟨rfl, rfl⟩))
        go_roundw
        case rel => exact ⟨6, by omega, rfl, by simp [vG, vTam, hb]⟩
        case measure => simp [intOf]
      · have hbb : (BM.vBit m 5 == 1) = false := by simpa using hb
        go_wp2_with (first | (go_at_call 17; refine (bit_any _ _ _).mono ?_; rintro e w' ⟨rfl, rfl⟩) | (go_at_call 18; refine (byte_any _ _).mono ?_; rintro e w' ⟨rfl, rfl⟩))
        go_roundw
        case rel => exact ⟨6, by omega, rfl, by simp [vG, vTam, hb]⟩
        case measure => simp [intOf]
    · by_cases hb : BM.vBit m 6 = 1
      · have hbb : (BM.vBit m 6 == 1) = true := beq_iff_eq.2 hb
        go_wp2_with (first | (go_at_call 17; refine (bit_any _ _ _).mono ?_; rintro e w' ⟨rfl, rfl⟩) | (go_at_call 18; refine (byte_any _ _).mono ?_; rintro e w' ⟨rfl, rfl⟩))
        go_roundw
        case rel => exact ⟨7, by omega, rfl, by simp [vG, vTam, hb]⟩
        case measure => simp [intOf]
      · have hbb : (BM.vBit m 6 == 1) = false := by simpa using hb
        go_wp2_with (first | (go_at_call 17; refine (bit_any _ _ _).mono ?_; rintro e w' ⟨rfl, rfl⟩) | (go_at_call 18; refine (byte_any _ _).mono ?_; rintro e w' ⟨rfl, rfl⟩))
        go_roundw
        case rel => exact ⟨7, by omega, rfl, by simp [vG, vTam, hb]⟩
        case measure => simp [intOf]
    · by_cases hb : BM.vBit m 7 = 1
      · have hbb : (BM.vBit m 7 == 1) = true := beq_iff_eq.2 hb
        go_wp2_with (first | (go_at_call 17; refine (bit_any _ _ _).mono ?_; rintro e w' ⟨rfl, rfl⟩) | (go_at_call 18; refine (byte_any _ _).mono ?_; rintro e w' ⟨rfl, rfl⟩))
        go_roundw
        case rel => exact ⟨8, by omega, rfl, by simp [vG, vTam, hb]⟩
        case measure => simp [intOf]
      · have hbb : (BM.vBit m 7 == 1) = false := by simpa using hb
        go_wp2_with (first | (go_at_call 17; refine (bit_any _ _ _).mono ?_; rintro e w' ⟨rfl, rfl⟩) | (go_at_call 18; refine (byte_any _ _).mono ?_; rintro e w' ⟨rfl, rfl⟩))
        go_roundw
        case rel => exact ⟨8, by omega, rfl, by simp [vG, vTam, hb]⟩
        case measure => simp [intOf]
    · go_wp2_with fail
      refine bodyPost_ret (v := .agg #[.int .i64 (vTam F m b 0), .int .i64 (vTam F m b 1), .int .i64 (vTam F m b 2), .int .i64 (vTam F m b 3), .int .i64 (vTam F m b 4), .int .i64 (vTam F m b 5), .int .i64 (vTam F m b 6), .int .i64 (vTam F m b 7)]) ?_ rfl ⟨rfl, ?_⟩
      · simp [results, Try.results8, go_sem, vG]
      · exact (by repeat (first | exact Up.refl _ | assumption | refine Up.drew ?_ | refine Up.alloc ?_ _ | refine Up.setCell ?_ (by simp) _ | refine Up.trans ?_ (by assumption)))

set_option maxHeartbeats 4000000 in
theorem rtam_any (F : Nat → Int) (m b : Int) (hm : -9223372036854775808 ≤ m ∧ m ≤ 9223372036854775807) (hb0 : -9223372036854775808 ≤ b ∧ b ≤ 9223372036854775807) (w : World) : Calls Try.prog 12 #[.agg #[.int .i64 (F 0), .int .i64 (F 1), .int .i64 (F 2), .int .i64 (F 3), .int .i64 (F 4), .int .i64 (F 5), .int .i64 (F 6), .int .i64 (F 7)], .int .i64 m, .int .i64 b] w fun e w' => e = .returned (.agg #[.int .i64 (vTam F m b 0), .int .i64 (vTam F m b 1), .int .i64 (vTam F m b 2), .int .i64 (vTam F m b 3), .int .i64 (vTam F m b 4), .int .i64 (vTam F m b 5), .int .i64 (vTam F m b 6), .int .i64 (vTam F m b 7)]) ∧ Up w w' := by
  go_enter Try.func12, Try.ntmps12
  go_wp2_with fail
  go_loopw [7] (fun i wr => ∃ j : Nat, j ≤ 8 ∧ i = .int .i64 j ∧ (w.alloc (.cells #[.int .i64 (vG F m b j 0), .int .i64 (vG F m b j 1), .int .i64 (vG F m b j 2), .int .i64 (vG F m b j 3), .int .i64 (vG F m b j 4), .int .i64 (vG F m b j 5), .int .i64 (vG F m b j 6), .int .i64 (vG F m b j 7)] 22)).alloc (.cells #[.int .i64 0, .int .i64 0, .int .i64 0, .int .i64 0, .int .i64 0, .int .i64 0, .int .i64 0, .int .i64 0] 22) = wr) (fun i _ => 8 - (intOf i).toNat)
  case atStart => exact ⟨0, by omega, rfl, by simp [vG]⟩
  case round =>
    obtain ⟨j, hj, rfl, rfl⟩ := hrel
    have hjs : j = 0 ∨ j = 1 ∨ j = 2 ∨ j = 3 ∨ j = 4 ∨ j = 5 ∨ j = 6 ∨ j = 7 ∨ j = 8 := by omega
    rcases hjs with rfl | rfl | rfl | rfl | rfl | rfl | rfl | rfl | rfl
    · by_cases hb : BM.vBit m 0 = 1
      · have hbb : (BM.vBit m 0 == 1) = true := beq_iff_eq.2 hb
        go_wp2_with (first | (go_at_call 21; refine (rbit_any _ _ _ hm).mono ?_; rintro e w' ⟨rfl, rfl⟩) | (go_at_call 20; refine (rbyte_any _ _ hb0).mono ?_; rintro e w' ⟨rfl, rfl⟩))
        go_roundw
        case rel => exact ⟨1, by omega, rfl, by simp [vG, vTam, hb]⟩
        case measure => simp [intOf]
      · have hbb : (BM.vBit m 0 == 1) = false := by simpa using hb
        go_wp2_with (first | (go_at_call 21; refine (rbit_any _ _ _ hm).mono ?_; rintro e w' ⟨rfl, rfl⟩) | (go_at_call 20; refine (rbyte_any _ _ hb0).mono ?_; rintro e w' ⟨rfl, rfl⟩))
        go_roundw
        case rel => exact ⟨1, by omega, rfl, by simp [vG, vTam, hb]⟩
        case measure => simp [intOf]
    · by_cases hb : BM.vBit m 1 = 1
      · have hbb : (BM.vBit m 1 == 1) = true := beq_iff_eq.2 hb
        go_wp2_with (first | (go_at_call 21; refine (rbit_any _ _ _ hm).mono ?_; rintro e w' ⟨rfl, rfl⟩) | (go_at_call 20; refine (rbyte_any _ _ hb0).mono ?_; rintro e w' ⟨rfl, rfl⟩))
        go_roundw
        case rel => exact ⟨2, by omega, rfl, by simp [vG, vTam, hb]⟩
        case measure => simp [intOf]
      · have hbb : (BM.vBit m 1 == 1) = false := by simpa using hb
        go_wp2_with (first | (go_at_call 21; refine (rbit_any _ _ _ hm).mono ?_; rintro e w' ⟨rfl, rfl⟩) | (go_at_call 20; refine (rbyte_any _ _ hb0).mono ?_; rintro e w' ⟨rfl, rfl⟩))
        go_roundw
        case rel => exact ⟨2, by omega, rfl, by simp [vG, vTam, hb]⟩
        case measure => simp [intOf]
    · by_cases hb : BM.vBit m 2 = 1
      · have hbb : (BM.vBit m 2 == 1) = true := beq_iff_eq.2 hb
        go_wp2_with (first | (go_at_call 21; refine (rbit_any _ _ _ hm).mono ?_; rintro e w' ⟨rfl, rfl⟩) | (go_at_call 20; refine (rbyte_any _ _ hb0).mono ?_; rintro e w' ⟨rfl, rfl⟩))
        go_roundw
        case rel => exact ⟨3, by omega, rfl, by simp [vG, vTam, hb]⟩
        case measure => simp [intOf]
      · have hbb : (BM.vBit m 2 == 1) = false := by simpa using hb
        go_wp2_with (first | (go_at_call 21; refine (rbit_any _ _ _ hm).mono ?_; rintro e w' ⟨rfl, rfl⟩) | (go_at_call 20; refine (rbyte_any _ _ hb0).mono ?_; rintro e w' ⟨rfl, rfl⟩))
        go_roundw
        case rel => exact ⟨3, by omega, rfl, by simp [vG, vTam, hb]⟩
        case measure => simp [intOf]
    · by_cases hb : BM.vBit m 3 = 1
      · have hbb : (BM.vBit m 3 == 1) = true := beq_iff_eq.2 hb
        go_wp2_with (first | (go_at_call 21; refine (rbit_any _ _ _ hm).mono ?_; rintro e w' ⟨rfl, rfl⟩) | (go_at_call 20; refine (rbyte_any _ _ hb0).mono ?_; rintro e w' ⟨rfl, rfl⟩))
        go_roundw
        case rel => exact ⟨4, by omega, rfl, by simp [vG, vTam, hb]⟩
        case measure => simp [intOf]
      · have hbb : (BM.vBit m 3 == 1) = false := by simpa using hb
        go_wp2_with (first | (go_at_call 21; refine (rbit_any _ _ _ hm).mono ?_; rintro e w' ⟨rfl, rfl⟩) | (go_at_call 20; refine (rbyte_any _ _ hb0).mono ?_; rintro e w' ⟨rfl, rfl⟩))
        go_roundw
        case rel => exact ⟨4, by omega, rfl, by simp [vG, vTam, hb]⟩
        case measure => simp [intOf]
    · by_cases hb : BM.vBit m 4 = 1
      · have hbb : (BM.vBit m 4 == 1) = true := beq_iff_eq.2 hb
        go_wp2_with (first | (go_at_call 21; refine (rbit_any _ _ _ hm).mono ?_; rintro e w' ⟨rfl, rfl⟩) | (go_at_call 20; refine (rbyte_any _ _ hb0).mono ?_; rintro e w' ⟨rfl, rfl⟩))
        go_roundw
        case rel => exact ⟨5, by omega, rfl, by simp [vG, vTam, hb]⟩
        case measure => simp [intOf]
      · have hbb : (BM.vBit m 4 == 1) = false := by simpa using hb
        go_wp2_with (first | (go_at_call 21; refine (rbit_any _ _ _ hm).mono ?_; rintro e w' ⟨rfl, rfl⟩) | (go_at_call 20; refine (rbyte_any _ _ hb0).mono ?_; rintro e w' ⟨rfl, rfl⟩))
        go_roundw
        case rel => exact ⟨5, by omega, rfl, by simp [vG, vTam, hb]⟩
        case measure => simp [intOf]
    · by_cases hb : BM.vBit m 5 = 1
      · have hbb : (BM.vBit m 5 == 1) = true := beq_iff_eq.2 hb
        go_wp2_with (first | (go_at_call 21; refine (rbit_any _ _ _ hm).mono ?_; rintro e w' ⟨rfl, rfl⟩) | (go_at_call 20; refine (rbyte_any _ _ hb0).mono ?_; rintro e w' ⟨rfl, rfl⟩))
        go_roundw
        case rel => exact ⟨6, by omega, rfl, by simp [vG, vTam, hb]⟩
        case measure => simp [intOf]
      · have hbb : (BM.vBit m 5 == 1) = false := by simpa using hb
        go_wp2_with (first | (go_at_call 21; refine (rbit_any _ _ _ hm).mono ?_; rintro e w' ⟨rfl, rfl⟩) | (go_at_call 20; refine (rbyte_any _ _ hb0).mono ?_; rintro e w' ⟨rfl, rfl⟩))
        go_roundw
        case rel => exact ⟨6, by omega, rfl, by simp [vG, vTam, hb]⟩
        case measure => simp [intOf]
    · by_cases hb : BM.vBit m 6 = 1
      · have hbb : (BM.vBit m 6 == 1) = true := beq_iff_eq.2 hb
        go_wp2_with (first | (go_at_call 21; refine (rbit_any _ _ _ hm).mono ?_; rintro e w' ⟨rfl, rfl⟩) | (go_at_call 20; refine (rbyte_any _ _ hb0).mono ?_; rintro e w' ⟨rfl, rfl⟩))
        go_roundw
        case rel => exact ⟨7, by omega, rfl, by simp [vG, vTam, hb]⟩
        case measure => simp [intOf]
      · have hbb : (BM.vBit m 6 == 1) = false := by simpa using hb
        go_wp2_with (first | (go_at_call 21; refine (rbit_any _ _ _ hm).mono ?_; rintro e w' ⟨rfl, rfl⟩) | (go_at_call 20; refine (rbyte_any _ _ hb0).mono ?_; rintro e w' ⟨rfl, rfl⟩))
        go_roundw
        case rel => exact ⟨7, by omega, rfl, by simp [vG, vTam, hb]⟩
        case measure => simp [intOf]
    · by_cases hb : BM.vBit m 7 = 1
      · have hbb : (BM.vBit m 7 == 1) = true := beq_iff_eq.2 hb
        go_wp2_with (first | (go_at_call 21; refine (rbit_any _ _ _ hm).mono ?_; rintro e w' ⟨rfl, rfl⟩) | (go_at_call 20; refine (rbyte_any _ _ hb0).mono ?_; rintro e w' ⟨rfl, rfl⟩))
        go_roundw
        case rel => exact ⟨8, by omega, rfl, by simp [vG, vTam, hb]⟩
        case measure => simp [intOf]
      · have hbb : (BM.vBit m 7 == 1) = false := by simpa using hb
        go_wp2_with (first | (go_at_call 21; refine (rbit_any _ _ _ hm).mono ?_; rintro e w' ⟨rfl, rfl⟩) | (go_at_call 20; refine (rbyte_any _ _ hb0).mono ?_; rintro e w' ⟨rfl, rfl⟩))
        go_roundw
        case rel => exact ⟨8, by omega, rfl, by simp [vG, vTam, hb]⟩
        case measure => simp [intOf]
    · go_wp2_with fail
      refine bodyPost_ret (v := .agg #[.int .i64 (vTam F m b 0), .int .i64 (vTam F m b 1), .int .i64 (vTam F m b 2), .int .i64 (vTam F m b 3), .int .i64 (vTam F m b 4), .int .i64 (vTam F m b 5), .int .i64 (vTam F m b 6), .int .i64 (vTam F m b 7)]) ?_ rfl ⟨rfl, ?_⟩
      · simp [results, Try.results12, go_sem, vG]
      · exact (by repeat (first | exact Up.refl _ | assumption | refine Up.drew ?_ | refine Up.alloc ?_ _ | refine Up.setCell ?_ (by simp) _ | refine Up.trans ?_ (by assumption)))

def vTma (F : Nat → Int) (m last : Int) : Int :=
  if BM.vBit m 0 = 1 then F 0 % 256 else if BM.vBit m 1 = 1 then F 1 % 256 else if BM.vBit m 2 = 1 then F 2 % 256 else if BM.vBit m 3 = 1 then F 3 % 256 else if BM.vBit m 4 = 1 then F 4 % 256 else if BM.vBit m 5 = 1 then F 5 % 256 else if BM.vBit m 6 = 1 then F 6 % 256 else if BM.vBit m 7 = 1 then F 7 % 256 else last % 256
set_option maxHeartbeats 4000000 in
theorem tma_any (F : Nat → Int) (m last : Int) (w : World) : Calls Try.prog 9 #[.agg #[.int .i64 (F 0), .int .i64 (F 1), .int .i64 (F 2), .int .i64 (F 3), .int .i64 (F 4), .int .i64 (F 5), .int .i64 (F 6), .int .i64 (F 7)], .int .i64 m, .int .i64 last] w fun e w' => e = .returned (.int .i64 (vTma F m last)) ∧ Up w w' := by
  have HB := Lib.hid (fun w => bytes_any F w)
  go_enter Try.func9, Try.ntmps9
  go_wp2_with fail
  refine (HB.out _).mono ?_; rintro e w1 ⟨rfl, hU1⟩
  go_wp2_with fail
  refine wp_loop_rounds 9 ?_
  rw [rounds_succ]
  by_cases h0 : BM.vBit m 0 = 1
  · have hx0 : (BM.vBit m 0 == 1) = true := beq_iff_eq.2 h0
    go_wp2_with (first | (go_at_call 17; refine (bit_any _ _ _).mono ?_; rintro e w' ⟨rfl, rfl⟩) | (go_at_call 18; refine (byte_any _ _).mono ?_; rintro e w' ⟨rfl, rfl⟩))
    go_ret
    exact ⟨ret_int (by unfold vTma; rw [if_pos h0]), (by repeat (first | exact Up.refl _ | assumption | refine Up.drew ?_ | refine Up.alloc ?_ _ | refine Up.setCell ?_ (by simp) _ | refine Up.trans ?_ (by assumption)))⟩
  have hx0 : (BM.vBit m 0 == 1) = false := by simpa using h0
  go_wp2_with (first | (go_at_call 17; refine (bit_any _ _ _).mono ?_; rintro e w' ⟨rfl, rfl⟩) | (go_at_call 18; refine (byte_any _ _).mono ?_; rintro e w' ⟨rfl, rfl⟩))
  rw [rounds_succ]
  by_cases h1 : BM.vBit m 1 = 1
  · have hx1 : (BM.vBit m 1 == 1) = true := beq_iff_eq.2 h1
    go_wp2_with (first | (go_at_call 17; refine (bit_any _ _ _).mono ?_; rintro e w' ⟨rfl, rfl⟩) | (go_at_call 18; refine (byte_any _ _).mono ?_; rintro e w' ⟨rfl, rfl⟩))
    go_ret
    exact ⟨ret_int (by unfold vTma; rw [if_neg h0]; rw [if_pos h1]), (by repeat (first | exact Up.refl _ | assumption | refine Up.drew ?_ | refine Up.alloc ?_ _ | refine Up.setCell ?_ (by simp) _ | refine Up.trans ?_ (by assumption)))⟩
  have hx1 : (BM.vBit m 1 == 1) = false := by simpa using h1
  go_wp2_with (first | (go_at_call 17; refine (bit_any _ _ _).mono ?_; rintro e w' ⟨rfl, rfl⟩) | (go_at_call 18; refine (byte_any _ _).mono ?_; rintro e w' ⟨rfl, rfl⟩))
  rw [rounds_succ]
  by_cases h2 : BM.vBit m 2 = 1
  · have hx2 : (BM.vBit m 2 == 1) = true := beq_iff_eq.2 h2
    go_wp2_with (first | (go_at_call 17; refine (bit_any _ _ _).mono ?_; rintro e w' ⟨rfl, rfl⟩) | (go_at_call 18; refine (byte_any _ _).mono ?_; rintro e w' ⟨rfl, rfl⟩))
    go_ret
    exact ⟨ret_int (by unfold vTma; rw [if_neg h0]; rw [if_neg h1]; rw [if_pos h2]), (by repeat (first | exact Up.refl _ | assumption | refine Up.drew ?_ | refine Up.alloc ?_ _ | refine Up.setCell ?_ (by simp) _ | refine Up.trans ?_ (by assumption)))⟩
  have hx2 : (BM.vBit m 2 == 1) = false := by simpa using h2
  go_wp2_with (first | (go_at_call 17; refine (bit_any _ _ _).mono ?_; rintro e w' ⟨rfl, rfl⟩) | (go_at_call 18; refine (byte_any _ _).mono ?_; rintro e w' ⟨rfl, rfl⟩))
  rw [rounds_succ]
  by_cases h3 : BM.vBit m 3 = 1
  · have hx3 : (BM.vBit m 3 == 1) = true := beq_iff_eq.2 h3
    go_wp2_with (first | (go_at_call 17; refine (bit_any _ _ _).mono ?_; rintro e w' ⟨rfl, rfl⟩) | (go_at_call 18; refine (byte_any _ _).mono ?_; rintro e w' ⟨rfl, rfl⟩))
    go_ret
    exact ⟨ret_int (by unfold vTma; rw [if_neg h0]; rw [if_neg h1]; rw [if_neg h2]; rw [if_pos h3]), (by repeat (first | exact Up.refl _ | assumption | refine Up.drew ?_ | refine Up.alloc ?_ _ | refine Up.setCell ?_ (by simp) _ | refine Up.trans ?_ (by assumption)))⟩
  have hx3 : (BM.vBit m 3 == 1) = false := by simpa using h3
  go_wp2_with (first | (go_at_call 17; refine (bit_any _ _ _).mono ?_; rintro e w' ⟨rfl, rfl⟩) | (go_at_call 18; refine (byte_any _ _).mono ?_; rintro e w' ⟨rfl, rfl⟩))
  rw [rounds_succ]
  by_cases h4 : BM.vBit m 4 = 1
  · have hx4 : (BM.vBit m 4 == 1) = true := beq_iff_eq.2 h4
    go_wp2_with (first | (go_at_call 17; refine (bit_any _ _ _).mono ?_; rintro e w' ⟨rfl, rfl⟩) | (go_at_call 18; refine (byte_any _ _).mono ?_; rintro e w' ⟨rfl, rfl⟩))
    go_ret
    exact ⟨ret_int (by unfold vTma; rw [if_neg h0]; rw [if_neg h1]; rw [if_neg h2]; rw [if_neg h3]; rw [if_pos h4]), (by repeat (first | exact Up.refl _ | assumption | refine Up.drew ?_ | refine Up.alloc ?_ _ | refine Up.setCell ?_ (by simp) _ | refine Up.trans ?_ (by assumption)))⟩
  have hx4 : (BM.vBit m 4 == 1) = false := by simpa using h4
  go_wp2_with (first | (go_at_call 17; refine (bit_any _ _ _).mono ?_; rintro e w' ⟨rfl, rfl⟩) | (go_at_call 18; refine (byte_any _ _).mono ?_; rintro e w' ⟨rfl, rfl⟩))
  rw [rounds_succ]
  by_cases h5 : BM.vBit m 5 = 1
  · have hx5 : (BM.vBit m 5 == 1) = true := beq_iff_eq.2 h5
    go_wp2_with (first | (go_at_call 17; refine (bit_any _ _ _).mono ?_; rintro e w' ⟨rfl, rfl⟩) | (go_at_call 18; refine (byte_any _ _).mono ?_; rintro e w' ⟨rfl, rfl⟩))
    go_ret
    exact ⟨ret_int (by unfold vTma; rw [if_neg h0]; rw [if_neg h1]; rw [if_neg h2]; rw [if_neg h3]; rw [if_neg h4]; rw [if_pos h5]), (by repeat (first | exact Up.refl _ | assumption | refine Up.drew ?_ | refine Up.alloc ?_ _ | refine Up.setCell ?_ (by simp) _ | refine Up.trans ?_ (by assumption)))⟩
  have hx5 : (BM.vBit m 5 == 1) = false := by simpa using h5
  go_wp2_with (first | (go_at_call 17; refine (bit_any _ _ _).mono ?_; rintro e w' ⟨rfl, rfl⟩) | (go_at_call 18; refine (byte_any _ _).mono ?_; rintro e w' ⟨rfl, rfl⟩))
  rw [rounds_succ]
  by_cases h6 : BM.vBit m 6 = 1
  · have hx6 : (BM.vBit m 6 == 1) = true := beq_iff_eq.2 h6
    go_wp2_with (first | (go_at_call 17; refine (bit_any _ _ _).mono ?_; rintro e w' ⟨rfl, rfl⟩) | (go_at_call 18; refine (byte_any _ _).mono ?_; rintro e w' ⟨rfl, rfl⟩))
    go_ret
    exact ⟨ret_int (by unfold vTma; rw [if_neg h0]; rw [if_neg h1]; rw [if_neg h2]; rw [if_neg h3]; rw [if_neg h4]; rw [if_neg h5]; rw [if_pos h6]), (by repeat (first | exact Up.refl _ | assumption | refine Up.drew ?_ | refine Up.alloc ?_ _ | refine Up.setCell ?_ (by simp) _ | refine Up.trans ?_ (by assumption)))⟩
  have hx6 : (BM.vBit m 6 == 1) = false := by simpa using h6
  go_wp2_with (first | (go_at_call 17; refine (bit_any _ _ _).mono ?_; rintro e w' ⟨rfl, rfl⟩) | (go_at_call 18; refine (byte_any _ _).mono ?_; rintro e w' ⟨rfl, rfl⟩))
  rw [rounds_succ]
  by_cases h7 : BM.vBit m 7 = 1
  · have hx7 : (BM.vBit m 7 == 1) = true := beq_iff_eq.2 h7
    go_wp2_with (first | (go_at_call 17; refine (bit_any _ _ _).mono ?_; rintro e w' ⟨rfl, rfl⟩) | (go_at_call 18; refine (byte_any _ _).mono ?_; rintro e w' ⟨rfl, rfl⟩))
    go_ret
    exact ⟨ret_int (by unfold vTma; rw [if_neg h0]; rw [if_neg h1]; rw [if_neg h2]; rw [if_neg h3]; rw [if_neg h4]; rw [if_neg h5]; rw [if_neg h6]; rw [if_pos h7]), (by repeat (first | exact Up.refl _ | assumption | refine Up.drew ?_ | refine Up.alloc ?_ _ | refine Up.setCell ?_ (by simp) _ | refine Up.trans ?_ (by assumption)))⟩
  have hx7 : (BM.vBit m 7 == 1) = false := by simpa using h7
  go_wp2_with (first | (go_at_call 17; refine (bit_any _ _ _).mono ?_; rintro e w' ⟨rfl, rfl⟩) | (go_at_call 18; refine (byte_any _ _).mono ?_; rintro e w' ⟨rfl, rfl⟩))
  rw [rounds_succ]
  go_wp2_with (first | (go_at_call 17; refine (bit_any _ _ _).mono ?_; rintro e w' ⟨rfl, rfl⟩) | (go_at_call 18; refine (byte_any _ _).mono ?_; rintro e w' ⟨rfl, rfl⟩))
  go_ret
  exact ⟨ret_int (by unfold vTma; rw [if_neg h0]; rw [if_neg h1]; rw [if_neg h2]; rw [if_neg h3]; rw [if_neg h4]; rw [if_neg h5]; rw [if_neg h6]; rw [if_neg h7]), (by repeat (first | exact Up.refl _ | assumption | refine Up.drew ?_ | refine Up.alloc ?_ _ | refine Up.setCell ?_ (by simp) _ | refine Up.trans ?_ (by assumption)))⟩

set_option maxHeartbeats 4000000 in
theorem rtma_any (F : Nat → Int) (m last : Int) (hm : -9223372036854775808 ≤ m ∧ m ≤ 9223372036854775807) (hl : -9223372036854775808 ≤ last ∧ last ≤ 9223372036854775807) (hF : ∀ i, -9223372036854775808 ≤ F i ∧ F i ≤ 9223372036854775807) (w : World) : Calls Try.prog 13 #[.agg #[.int .i64 (F 0), .int .i64 (F 1), .int .i64 (F 2), .int .i64 (F 3), .int .i64 (F 4), .int .i64 (F 5), .int .i64 (F 6), .int .i64 (F 7)], .int .i64 m, .int .i64 last] w fun e w' => e = .returned (.int .i64 (vTma F m last)) ∧ Up w w' := by
  go_enter Try.func13, Try.ntmps13
  go_wp2_with fail
  refine wp_loop_rounds 9 ?_
  rw [rounds_succ]
  by_cases h0 : BM.vBit m 0 = 1
  · have hx0 : (BM.vBit m 0 == 1) = true := beq_iff_eq.2 h0
    go_wp2_with (first | (go_at_call 21; refine (rbit_any _ _ _ hm).mono ?_; rintro e w' ⟨rfl, rfl⟩) | (go_at_call 20; refine (rbyte_any _ _ (by first | exact hl | exact hF _)).mono ?_; rintro e w' ⟨rfl, rfl⟩))
    go_ret
    exact ⟨ret_int (by unfold vTma; rw [if_pos h0]), (by repeat (first | exact Up.refl _ | assumption | refine Up.drew ?_ | refine Up.alloc ?_ _ | refine Up.setCell ?_ (by simp) _ | refine Up.trans ?_ (by assumption)))⟩
  have hx0 : (BM.vBit m 0 == 1) = false := by simpa using h0
  go_wp2_with (first | (go_at_call 21; refine (rbit_any _ _ _ hm).mono ?_; rintro e w' ⟨rfl, rfl⟩) | (go_at_call 20; refine (rbyte_any _ _ (by first | exact hl | exact hF _)).mono ?_; rintro e w' ⟨rfl, rfl⟩))
  rw [rounds_succ]
  by_cases h1 : BM.vBit m 1 = 1
  · have hx1 : (BM.vBit m 1 == 1) = true := beq_iff_eq.2 h1
    go_wp2_with (first | (go_at_call 21; refine (rbit_any _ _ _ hm).mono ?_; rintro e w' ⟨rfl, rfl⟩) | (go_at_call 20; refine (rbyte_any _ _ (by first | exact hl | exact hF _)).mono ?_; rintro e w' ⟨rfl, rfl⟩))
    go_ret
    exact ⟨ret_int (by unfold vTma; rw [if_neg h0]; rw [if_pos h1]), (by repeat (first | exact Up.refl _ | assumption | refine Up.drew ?_ | refine Up.alloc ?_ _ | refine Up.setCell ?_ (by simp) _ | refine Up.trans ?_ (by assumption)))⟩
  have hx1 : (BM.vBit m 1 == 1) = false := by simpa using h1
  go_wp2_with (first | (go_at_call 21; refine (rbit_any _ _ _ hm).mono ?_; rintro e w' ⟨rfl, rfl⟩) | (go_at_call 20; refine (rbyte_any _ _ (by first | exact hl | exact hF _)).mono ?_; rintro e w' ⟨rfl, rfl⟩))
  rw [rounds_succ]
  by_cases h2 : BM.vBit m 2 = 1
  · have hx2 : (BM.vBit m 2 == 1) = true := beq_iff_eq.2 h2
    go_wp2_with (first | (go_at_call 21; refine (rbit_any _ _ _ hm).mono ?_; rintro e w' ⟨rfl, rfl⟩) | (go_at_call 20; refine (rbyte_any _ _ (by first | exact hl | exact hF _)).mono ?_; rintro e w' ⟨rfl, rfl⟩))
    go_ret
    exact ⟨ret_int (by unfold vTma; rw [if_neg h0]; rw [if_neg h1]; rw [if_pos h2]), (by repeat (first | exact Up.refl _ | assumption | refine Up.drew ?_ | refine Up.alloc ?_ _ | refine Up.setCell ?_ (by simp) _ | refine Up.trans ?_ (by assumption)))⟩
  have hx2 : (BM.vBit m 2 == 1) = false := by simpa using h2
  go_wp2_with (first | (go_at_call 21; refine (rbit_any _ _ _ hm).mono ?_; rintro e w' ⟨rfl, rfl⟩) | (go_at_call 20; refine (rbyte_any _ _ (by first | exact hl | exact hF _)).mono ?_; rintro e w' ⟨rfl, rfl⟩))
  rw [rounds_succ]
  by_cases h3 : BM.vBit m 3 = 1
  · have hx3 : (BM.vBit m 3 == 1) = true := beq_iff_eq.2 h3
    go_wp2_with (first | (go_at_call 21; refine (rbit_any _ _ _ hm).mono ?_; rintro e w' ⟨rfl, rfl⟩) | (go_at_call 20; refine (rbyte_any _ _ (by first | exact hl | exact hF _)).mono ?_; rintro e w' ⟨rfl, rfl⟩))
    go_ret
    exact ⟨ret_int (by unfold vTma; rw [if_neg h0]; rw [if_neg h1]; rw [if_neg h2]; rw [if_pos h3]), (by repeat (first | exact Up.refl _ | assumption | refine Up.drew ?_ | refine Up.alloc ?_ _ | refine Up.setCell ?_ (by simp) _ | refine Up.trans ?_ (by assumption)))⟩
  have hx3 : (BM.vBit m 3 == 1) = false := by simpa using h3
  go_wp2_with (first | (go_at_call 21; refine (rbit_any _ _ _ hm).mono ?_; rintro e w' ⟨rfl, rfl⟩) | (go_at_call 20; refine (rbyte_any _ _ (by first | exact hl | exact hF _)).mono ?_; rintro e w' ⟨rfl, rfl⟩))
  rw [rounds_succ]
  by_cases h4 : BM.vBit m 4 = 1
  · have hx4 : (BM.vBit m 4 == 1) = true := beq_iff_eq.2 h4
    go_wp2_with (first | (go_at_call 21; refine (rbit_any _ _ _ hm).mono ?_; rintro e w' ⟨rfl, rfl⟩) | (go_at_call 20; refine (rbyte_any _ _ (by first | exact hl | exact hF _)).mono ?_; rintro e w' ⟨rfl, rfl⟩))
    go_ret
    exact ⟨ret_int (by unfold vTma; rw [if_neg h0]; rw [if_neg h1]; rw [if_neg h2]; rw [if_neg h3]; rw [if_pos h4]), (by repeat (first | exact Up.refl _ | assumption | refine Up.drew ?_ | refine Up.alloc ?_ _ | refine Up.setCell ?_ (by simp) _ | refine Up.trans ?_ (by assumption)))⟩
  have hx4 : (BM.vBit m 4 == 1) = false := by simpa using h4
  go_wp2_with (first | (go_at_call 21; refine (rbit_any _ _ _ hm).mono ?_; rintro e w' ⟨rfl, rfl⟩) | (go_at_call 20; refine (rbyte_any _ _ (by first | exact hl | exact hF _)).mono ?_; rintro e w' ⟨rfl, rfl⟩))
  rw [rounds_succ]
  by_cases h5 : BM.vBit m 5 = 1
  · have hx5 : (BM.vBit m 5 == 1) = true := beq_iff_eq.2 h5
    go_wp2_with (first | (go_at_call 21; refine (rbit_any _ _ _ hm).mono ?_; rintro e w' ⟨rfl, rfl⟩) | (go_at_call 20; refine (rbyte_any _ _ (by first | exact hl | exact hF _)).mono ?_; rintro e w' ⟨rfl, rfl⟩))
    go_ret
    exact ⟨ret_int (by unfold vTma; rw [if_neg h0]; rw [if_neg h1]; rw [if_neg h2]; rw [if_neg h3]; rw [if_neg h4]; rw [if_pos h5]), (by repeat (first | exact Up.refl _ | assumption | refine Up.drew ?_ | refine Up.alloc ?_ _ | refine Up.setCell ?_ (by simp) _ | refine Up.trans ?_ (by assumption)))⟩
  have hx5 : (BM.vBit m 5 == 1) = false := by simpa using h5
  go_wp2_with (first | (go_at_call 21; refine (rbit_any _ _ _ hm).mono ?_; rintro e w' ⟨rfl, rfl⟩) | (go_at_call 20; refine (rbyte_any _ _ (by first | exact hl | exact hF _)).mono ?_; rintro e w' ⟨rfl, rfl⟩))
  rw [rounds_succ]
  by_cases h6 : BM.vBit m 6 = 1
  · have hx6 : (BM.vBit m 6 == 1) = true := beq_iff_eq.2 h6
    go_wp2_with (first | (go_at_call 21; refine (rbit_any _ _ _ hm).mono ?_; rintro e w' ⟨rfl, rfl⟩) | (go_at_call 20; refine (rbyte_any _ _ (by first | exact hl | exact hF _)).mono ?_; rintro e w' ⟨rfl, rfl⟩))
    go_ret
    exact ⟨ret_int (by unfold vTma; rw [if_neg h0]; rw [if_neg h1]; rw [if_neg h2]; rw [if_neg h3]; rw [if_neg h4]; rw [if_neg h5]; rw [if_pos h6]), (by repeat (first | exact Up.refl _ | assumption | refine Up.drew ?_ | refine Up.alloc ?_ _ | refine Up.setCell ?_ (by simp) _ | refine Up.trans ?_ (by assumption)))⟩
  have hx6 : (BM.vBit m 6 == 1) = false := by simpa using h6
  go_wp2_with (first | (go_at_call 21; refine (rbit_any _ _ _ hm).mono ?_; rintro e w' ⟨rfl, rfl⟩) | (go_at_call 20; refine (rbyte_any _ _ (by first | exact hl | exact hF _)).mono ?_; rintro e w' ⟨rfl, rfl⟩))
  rw [rounds_succ]
  by_cases h7 : BM.vBit m 7 = 1
  · have hx7 : (BM.vBit m 7 == 1) = true := beq_iff_eq.2 h7
    go_wp2_with (first | (go_at_call 21; refine (rbit_any _ _ _ hm).mono ?_; rintro e w' ⟨rfl, rfl⟩) | (go_at_call 20; refine (rbyte_any _ _ (by first | exact hl | exact hF _)).mono ?_; rintro e w' ⟨rfl, rfl⟩))
    go_ret
    exact ⟨ret_int (by unfold vTma; rw [if_neg h0]; rw [if_neg h1]; rw [if_neg h2]; rw [if_neg h3]; rw [if_neg h4]; rw [if_neg h5]; rw [if_neg h6]; rw [if_pos h7]), (by repeat (first | exact Up.refl _ | assumption | refine Up.drew ?_ | refine Up.alloc ?_ _ | refine Up.setCell ?_ (by simp) _ | refine Up.trans ?_ (by assumption)))⟩
  have hx7 : (BM.vBit m 7 == 1) = false := by simpa using h7
  go_wp2_with (first | (go_at_call 21; refine (rbit_any _ _ _ hm).mono ?_; rintro e w' ⟨rfl, rfl⟩) | (go_at_call 20; refine (rbyte_any _ _ (by first | exact hl | exact hF _)).mono ?_; rintro e w' ⟨rfl, rfl⟩))
  rw [rounds_succ]
  go_wp2_with (first | (go_at_call 21; refine (rbit_any _ _ _ hm).mono ?_; rintro e w' ⟨rfl, rfl⟩) | (go_at_call 20; refine (rbyte_any _ _ (by first | exact hl | exact hF _)).mono ?_; rintro e w' ⟨rfl, rfl⟩))
  go_ret
  exact ⟨ret_int (by unfold vTma; rw [if_neg h0]; rw [if_neg h1]; rw [if_neg h2]; rw [if_neg h3]; rw [if_neg h4]; rw [if_neg h5]; rw [if_neg h6]; rw [if_neg h7]), (by repeat (first | exact Up.refl _ | assumption | refine Up.drew ?_ | refine Up.alloc ?_ _ | refine Up.setCell ?_ (by simp) _ | refine Up.trans ?_ (by assumption)))⟩

theorem fresh_any (w : World) : Calls Try.prog 14 #[] w fun e w' => e = .returned (.agg #[.int .i64 0, .int .i64 248, .int .i64 0, .int .i64 0, .int .i64 0, .int .i64 0, .int .i64 0, .int .i64 0]) ∧ Up w w' := by
  go_enter Try.func14, Try.ntmps14
  go_wp2_with fail
  refine bodyPost_ret (v := .agg #[.int .i64 0, .int .i64 248, .int .i64 0, .int .i64 0, .int .i64 0, .int .i64 0, .int .i64 0, .int .i64 0]) ?_ rfl ⟨rfl, ?_⟩
  · simp [results, Try.results14, go_sem]
  · exact (by repeat (first | exact Up.refl _ | assumption | refine Up.drew ?_ | refine Up.alloc ?_ _ | refine Up.setCell ?_ (by simp) _ | refine Up.trans ?_ (by assumption)))

set_option maxHeartbeats 4000000 in
theorem rphys_any (F : Nat → Int) (n : Int) (hn : -9223372036854775808 ≤ n ∧ n ≤ 9223372036854775807) (hF : ∀ i, -9223372036854775808 ≤ F i ∧ F i ≤ 9223372036854775807) (w : World) : Calls Try.prog 11 #[.agg #[.int .i64 (F 0), .int .i64 (F 1), .int .i64 (F 2), .int .i64 (F 3), .int .i64 (F 4), .int .i64 (F 5), .int .i64 (F 6), .int .i64 (F 7)], .int .i64 n] w fun e w' => e = .returned (.int .i64 (vPhys F n)) ∧ Up w w' := by
  have hq : n % 65536 / 8192 = 0 ∨ n % 65536 / 8192 = 1 ∨ n % 65536 / 8192 = 2 ∨ n % 65536 / 8192 = 3 ∨ n % 65536 / 8192 = 4 ∨ n % 65536 / 8192 = 5 ∨ n % 65536 / 8192 = 6 ∨ n % 65536 / 8192 = 7 := by omega
  have hm : (n % 65536).tmod 8192 = n % 8192 := by rw [Int.tmod_eq_emod_of_nonneg (by omega)]; omega
  have hd : (n % 65536).tdiv 8192 = n % 65536 / 8192 := Int.tdiv_eq_ediv_of_nonneg (by omega)
  rcases hq with hq | hq | hq | hq | hq | hq | hq | hq
  · have hv : vPhys F n = F 0 % 256 * 8192 + n % 8192 := by unfold vPhys; rw [hq]; rfl
    rw [hv]; clear hv
    have hn0 : 0 ≤ F 0 % 256 := by omega
    have hn1 : F 0 % 256 ≤ 255 := by omega
    have hn2 : 0 ≤ n % 8192 := by omega
    have hn3 : n % 8192 ≤ 8191 := by omega
    rw [hq] at hd
    go_enter Try.func11, Try.ntmps11
    go_wp2_with (first | (go_at_call 19; refine (rword_any _ _ hn).mono ?_; rintro e w' ⟨rfl, rfl⟩) | (go_at_call 20; refine (rbyte_any _ _ (hF _)).mono ?_; rintro e w' ⟨rfl, rfl⟩))
    go_ret
    exact ⟨rfl, (by repeat (first | exact Up.refl _ | assumption | refine Up.drew ?_ | refine Up.alloc ?_ _ | refine Up.setCell ?_ (by simp) _ | refine Up.trans ?_ (by assumption)))⟩
  · have hv : vPhys F n = F 1 % 256 * 8192 + n % 8192 := by unfold vPhys; rw [hq]; rfl
    rw [hv]; clear hv
    have hn0 : 0 ≤ F 1 % 256 := by omega
    have hn1 : F 1 % 256 ≤ 255 := by omega
    have hn2 : 0 ≤ n % 8192 := by omega
    have hn3 : n % 8192 ≤ 8191 := by omega
    rw [hq] at hd
    go_enter Try.func11, Try.ntmps11
    go_wp2_with (first | (go_at_call 19; refine (rword_any _ _ hn).mono ?_; rintro e w' ⟨rfl, rfl⟩) | (go_at_call 20; refine (rbyte_any _ _ (hF _)).mono ?_; rintro e w' ⟨rfl, rfl⟩))
    go_ret
    exact ⟨rfl, (by repeat (first | exact Up.refl _ | assumption | refine Up.drew ?_ | refine Up.alloc ?_ _ | refine Up.setCell ?_ (by simp) _ | refine Up.trans ?_ (by assumption)))⟩
  · have hv : vPhys F n = F 2 % 256 * 8192 + n % 8192 := by unfold vPhys; rw [hq]; rfl
    rw [hv]; clear hv
    have hn0 : 0 ≤ F 2 % 256 := by omega
    have hn1 : F 2 % 256 ≤ 255 := by omega
    have hn2 : 0 ≤ n % 8192 := by omega
    have hn3 : n % 8192 ≤ 8191 := by omega
    rw [hq] at hd
    go_enter Try.func11, Try.ntmps11
    go_wp2_with (first | (go_at_call 19; refine (rword_any _ _ hn).mono ?_; rintro e w' ⟨rfl, rfl⟩) | (go_at_call 20; refine (rbyte_any _ _ (hF _)).mono ?_; rintro e w' ⟨rfl, rfl⟩))
    go_ret
    exact ⟨rfl, (by repeat (first | exact Up.refl _ | assumption | refine Up.drew ?_ | refine Up.alloc ?_ _ | refine Up.setCell ?_ (by simp) _ | refine Up.trans ?_ (by assumption)))⟩
  · have hv : vPhys F n = F 3 % 256 * 8192 + n % 8192 := by unfold vPhys; rw [hq]; rfl
    rw [hv]; clear hv
    have hn0 : 0 ≤ F 3 % 256 := by omega
    have hn1 : F 3 % 256 ≤ 255 := by omega
    have hn2 : 0 ≤ n % 8192 := by omega
    have hn3 : n % 8192 ≤ 8191 := by omega
    rw [hq] at hd
    go_enter Try.func11, Try.ntmps11
    go_wp2_with (first | (go_at_call 19; refine (rword_any _ _ hn).mono ?_; rintro e w' ⟨rfl, rfl⟩) | (go_at_call 20; refine (rbyte_any _ _ (hF _)).mono ?_; rintro e w' ⟨rfl, rfl⟩))
    go_ret
    exact ⟨rfl, (by repeat (first | exact Up.refl _ | assumption | refine Up.drew ?_ | refine Up.alloc ?_ _ | refine Up.setCell ?_ (by simp) _ | refine Up.trans ?_ (by assumption)))⟩
  · have hv : vPhys F n = F 4 % 256 * 8192 + n % 8192 := by unfold vPhys; rw [hq]; rfl
    rw [hv]; clear hv
    have hn0 : 0 ≤ F 4 % 256 := by omega
    have hn1 : F 4 % 256 ≤ 255 := by omega
    have hn2 : 0 ≤ n % 8192 := by omega
    have hn3 : n % 8192 ≤ 8191 := by omega
    rw [hq] at hd
    go_enter Try.func11, Try.ntmps11
    go_wp2_with (first | (go_at_call 19; refine (rword_any _ _ hn).mono ?_; rintro e w' ⟨rfl, rfl⟩) | (go_at_call 20; refine (rbyte_any _ _ (hF _)).mono ?_; rintro e w' ⟨rfl, rfl⟩))
    go_ret
    exact ⟨rfl, (by repeat (first | exact Up.refl _ | assumption | refine Up.drew ?_ | refine Up.alloc ?_ _ | refine Up.setCell ?_ (by simp) _ | refine Up.trans ?_ (by assumption)))⟩
  · have hv : vPhys F n = F 5 % 256 * 8192 + n % 8192 := by unfold vPhys; rw [hq]; rfl
    rw [hv]; clear hv
    have hn0 : 0 ≤ F 5 % 256 := by omega
    have hn1 : F 5 % 256 ≤ 255 := by omega
    have hn2 : 0 ≤ n % 8192 := by omega
    have hn3 : n % 8192 ≤ 8191 := by omega
    rw [hq] at hd
    go_enter Try.func11, Try.ntmps11
    go_wp2_with (first | (go_at_call 19; refine (rword_any _ _ hn).mono ?_; rintro e w' ⟨rfl, rfl⟩) | (go_at_call 20; refine (rbyte_any _ _ (hF _)).mono ?_; rintro e w' ⟨rfl, rfl⟩))
    go_ret
    exact ⟨rfl, (by repeat (first | exact Up.refl _ | assumption | refine Up.drew ?_ | refine Up.alloc ?_ _ | refine Up.setCell ?_ (by simp) _ | refine Up.trans ?_ (by assumption)))⟩
  · have hv : vPhys F n = F 6 % 256 * 8192 + n % 8192 := by unfold vPhys; rw [hq]; rfl
    rw [hv]; clear hv
    have hn0 : 0 ≤ F 6 % 256 := by omega
    have hn1 : F 6 % 256 ≤ 255 := by omega
    have hn2 : 0 ≤ n % 8192 := by omega
    have hn3 : n % 8192 ≤ 8191 := by omega
    rw [hq] at hd
    go_enter Try.func11, Try.ntmps11
    go_wp2_with (first | (go_at_call 19; refine (rword_any _ _ hn).mono ?_; rintro e w' ⟨rfl, rfl⟩) | (go_at_call 20; refine (rbyte_any _ _ (hF _)).mono ?_; rintro e w' ⟨rfl, rfl⟩))
    go_ret
    exact ⟨rfl, (by repeat (first | exact Up.refl _ | assumption | refine Up.drew ?_ | refine Up.alloc ?_ _ | refine Up.setCell ?_ (by simp) _ | refine Up.trans ?_ (by assumption)))⟩
  · have hv : vPhys F n = F 7 % 256 * 8192 + n % 8192 := by unfold vPhys; rw [hq]; rfl
    rw [hv]; clear hv
    have hn0 : 0 ≤ F 7 % 256 := by omega
    have hn1 : F 7 % 256 ≤ 255 := by omega
    have hn2 : 0 ≤ n % 8192 := by omega
    have hn3 : n % 8192 ≤ 8191 := by omega
    rw [hq] at hd
    go_enter Try.func11, Try.ntmps11
    go_wp2_with (first | (go_at_call 19; refine (rword_any _ _ hn).mono ?_; rintro e w' ⟨rfl, rfl⟩) | (go_at_call 20; refine (rbyte_any _ _ (hF _)).mono ?_; rintro e w' ⟨rfl, rfl⟩))
    go_ret
    exact ⟨rfl, (by repeat (first | exact Up.refl _ | assumption | refine Up.drew ?_ | refine Up.alloc ?_ _ | refine Up.setCell ?_ (by simp) _ | refine Up.trans ?_ (by assumption)))⟩
end Go.Proofs.Ythgcagnfjldlfaa
