/- The walk of the law PadSix: it returns true. -/
import Derived.Test.YthaffmnoffjblaaA
import Derived.Test.YthaffmnoffjblaaOP
import Derived.Deep.RegionHeld3
import Derived.Lib.Hide
namespace Go.Proofs.Ythaffmnoffjblaa
open Go.RowKit

theorem andNot15 (x : Int) : bits .andNot .i64 15 x = 15 - x % 16 := by
  have h : bits .andNot .i64 15 x = bits .andNot .i64 15 (x % 2 ^ 4) := by
    apply BM.ext _ _ (BM.rng _ _ _) (BM.rng _ _ _)
    intro i hi
    rw [BM.bt_andNot _ _ _ hi, BM.bt_andNot _ _ _ hi, BM.bt_mod, show (15 : Int) = 2 ^ 4 - 1 from rfl, BM.bt_ones]
    cases decide (i < 4) <;> simp
  rw [h, show (2 : Int) ^ 4 = 16 from rfl]
  have : x % 16 = 0 ∨ x % 16 = 1 ∨ x % 16 = 2 ∨ x % 16 = 3 ∨ x % 16 = 4 ∨ x % 16 = 5 ∨ x % 16 = 6 ∨ x % 16 = 7 ∨ x % 16 = 8 ∨ x % 16 = 9 ∨ x % 16 = 10 ∨ x % 16 = 11 ∨ x % 16 = 12 ∨ x % 16 = 13 ∨ x % 16 = 14 ∨ x % 16 = 15 := by omega
  rcases this with h | h | h | h | h | h | h | h | h | h | h | h | h | h | h | h <;> rw [h] <;> decide +kernel
theorem or176 (x : Int) : bits .or .i64 176 (15 - x % 16) = 191 - x % 16 := by
  rw [BM.or_join 4 176 (15 - x % 16) (by decide) (by decide) (by decide) (by omega) (by omega) (by omega)]; omega
theorem or240 (x : Int) : bits .or .i64 240 (15 - x % 16) = 255 - x % 16 := by
  rw [BM.or_join 4 240 (15 - x % 16) (by decide) (by decide) (by decide) (by omega) (by omega) (by omega)]; omega
attribute [local go_sem] BM.and7 andNot15 or176 or240

theorem read_six (keys : Int) (sl sec : Bool) (w : World) :
    Calls Try.prog 6 #[.agg #[.bool sl, .bool false, .bool sec, .int .i64 0], .agg #[.int .i64 keys, .bool true, .int .i64 0, .bool false, .int .i64 0, .bool false, .int .i64 0, .bool false, .int .i64 0, .bool false], .bool true] w
      fun e w' => e = .returned (.int .i64 (if sec then (if sl then 176 else 191 - keys / 256 % 16) else (if sl then 191 - keys / 16 % 16 else 191 - keys % 16))) ∧ Up w w' := by
  have h : vRd sl sec 0 keys true 0 false 0 false 0 false 0 false true = (if sec then (if sl then 176 else 191 - keys / 256 % 16) else (if sl then 191 - keys / 16 % 16 else 191 - keys % 16)) := by
    cases sl <;> cases sec <;> simp [vRd, vBase, vPr] <;> omega
  rw [← h]
  exact read_any _ _ _ _ _ _ _ _ _ _ _ _ _ _ _ w

theorem write_two (s : Bool) (w : World) : Calls Try.prog 7 #[.agg #[.bool false, .bool false, .bool s, .int .i64 0], .int .i64 2] w fun e w' => e = .returned (.agg #[.bool false, .bool true, .bool (!s), .int .i64 0]) ∧ Up w w' := by
  have h := write_any false false s 0 2 false true (by decide +kernel) (by decide +kernel) w
  rw [show vSec false s true = !s by cases s <;> rfl, show vIdx false 0 false true = 0 from rfl] at h
  exact h
theorem write_none (s : Bool) (w : World) : Calls Try.prog 7 #[.agg #[.bool false, .bool true, .bool s, .int .i64 0], .int .i64 0] w fun e w' => e = .returned (.agg #[.bool false, .bool false, .bool s, .int .i64 0]) ∧ Up w w' := by
  have h := write_any false true s 0 0 false false (by decide +kernel) (by decide +kernel) w
  rw [show vSec true s false = s from rfl, show vIdx false 0 false false = 0 by decide +kernel] at h
  exact h

theorem par (j : Nat) : (!(j % 2 == 1)) = ((j + 1) % 2 == 1) := by
  rcases Nat.mod_two_eq_zero_or_one j with h | h
  · have : (j + 1) % 2 = 1 := by omega
    rw [h, this]; rfl
  · have : (j + 1) % 2 = 0 := by omega
    rw [h, this]; rfl

set_option maxHeartbeats 8000000 in
set_option maxRecDepth 100000 in
theorem walk_padSix (keys : Int) (_hk : -9223372036854775808 ≤ keys ∧ keys ≤ 9223372036854775807) (n : Int) (_hn : -9223372036854775808 ≤ n ∧ n ≤ 9223372036854775807) (w : World) :
    Calls Try.prog 5 #[.int .i64 keys, .int .i64 n] w fun e w' => e = .returned (.bool true) ∧ Below w.heap.size w w' := by
  obtain ⟨N, hN, hN8⟩ : ∃ N : Nat, n % 8 = N ∧ N < 8 := ⟨(n % 8).toNat, by omega, by omega⟩
  have HR := Lib.hid (fun sl sec w => read_six keys sl sec w)
  have W2 := Lib.hid (fun s w => write_two s w)
  have WN := Lib.hid (fun s w => write_none s w)
  have hr0 : ((N : Int).tmod 2) = N % 2 := Int.tmod_eq_emod_of_nonneg (by omega)
  go_enter Try.func5, Try.ntmps5
  go_wp2_with fail
  go_loopw [7] (fun i wr => ∃ j : Nat, ∃ s : Bool, j ≤ N ∧ i = .int .i64 j ∧ s = (j % 2 == 1) ∧ Below w.heap.size w wr ∧ w.heap.size + 1 < wr.heap.size ∧ (∀ o, wr.frozen? ⟨w.heap.size + 1, o, none⟩ = false)
      ∧ wr.cell? ⟨w.heap.size, 0, none⟩ = some (.int .i64 keys)
      ∧ wr.cell? ⟨w.heap.size, 1, none⟩ = some (.bool true)
      ∧ wr.cell? ⟨w.heap.size, 2, none⟩ = some (.int .i64 0)
      ∧ wr.cell? ⟨w.heap.size, 3, none⟩ = some (.bool false)
      ∧ wr.cell? ⟨w.heap.size, 4, none⟩ = some (.int .i64 0)
      ∧ wr.cell? ⟨w.heap.size, 5, none⟩ = some (.bool false)
      ∧ wr.cell? ⟨w.heap.size, 6, none⟩ = some (.int .i64 0)
      ∧ wr.cell? ⟨w.heap.size, 7, none⟩ = some (.bool false)
      ∧ wr.cell? ⟨w.heap.size, 8, none⟩ = some (.int .i64 0)
      ∧ wr.cell? ⟨w.heap.size, 9, none⟩ = some (.bool false)
      ∧ wr.cell? ⟨w.heap.size + 1, 0, none⟩ = some (.bool false) ∧ wr.cell? ⟨w.heap.size + 1, 1, none⟩ = some (.bool false) ∧ wr.cell? ⟨w.heap.size + 1, 2, none⟩ = some (.bool s) ∧ wr.cell? ⟨w.heap.size + 1, 3, none⟩ = some (.int .i64 0)) (fun i _ => N - (intOf i).toNat)
  case atStart => exact ⟨0, false, by omega, rfl, rfl, ((Below.refl _ _).alloc (Nat.le_refl _) _).alloc (by simp) _, by simp, fun o => by simp, by simp, by simp, by simp, by simp, by simp, by simp, by simp, by simp, by simp, by simp, by simp, by simp, by simp, by simp⟩
  case round =>
    obtain ⟨j, s, hj, rfl, hs, hB, hz, hfz, p0, p1, p2, p3, p4, p5, p6, p7, p8, p9, q0, q1, q2, q3⟩ := hrel
    by_cases hlt : j < N
    · go_wp2_with fail
      refine (W2.out _ _).mono ?_; rintro e w3 ⟨rfl, hU3⟩
      obtain ⟨hc3, hf3, hz3⟩ := hU3.facts
      go_wp2_with fail
      refine (WN.out _ _).mono ?_; rintro e w4 ⟨rfl, hU4⟩
      obtain ⟨hc4, hf4, hz4⟩ := hU4.facts
      have hz5 : w.heap.size + 1 < w3.heap.size := by omega
      have hz6 : w.heap.size < w3.heap.size := by omega
      have hz7 : w.heap.size < wr.heap.size := by omega
      have hB4 : Below w.heap.size w w4 := (hB.trans (Below.mono hU3 (by omega))).trans (Below.mono hU4 (by omega))
      go_wp2_with fail
      go_roundw
      case rel => exact ⟨j + 1, !(j % 2 == 1), by omega, rfl, par j, (((hB4.setCell (by simp) _).setCell (by simp) _).setCell (by simp) _).setCell (by simp) _, by simp; omega, fun o => by go_simp, by go_simp, by go_simp, by go_simp, by go_simp, by go_simp, by go_simp, by go_simp, by go_simp, by go_simp, by go_simp, by go_simp, by go_simp, by go_simp, by go_simp⟩
      case measure => simp [intOf]; omega
    · obtain rfl : j = N := by omega
      have hB5 := hB
      rcases Nat.mod_two_eq_zero_or_one j with hp | hp
      · have hs0 : s = false := by rw [hs, hp]; rfl
        subst hs0
        clear hs hfz hB
        have hq : (j : Int) % 2 = 0 := by omega
        go_wp2_with fail
        have y0 : w.heap.size < wr.heap.size := by omega
        go_region_held3 (fun w' => Up wr w' ∧ ∀ b o, b < wr.heap.size → w'.cell? ⟨b, o, none⟩ = wr.cell? ⟨b, o, none⟩) (first | exact ⟨by assumption, by assumption⟩ | go_keep) (first | (go_at_call 6; refine (HR.out _ _ _).mono ?_; rintro e w3 ⟨rfl, hB3⟩; have hU3 : Up wr w3 := (by first | exact Up.trans (by assumption) hB3 | exact Up.trans (Up.drew (Up.refl wr)) hB3); have hc3 : ∀ b o, b < wr.heap.size → w3.cell? ⟨b, o, none⟩ = wr.cell? ⟨b, o, none⟩ := (fun b o hb => hU3.cell hb)))
        obtain ⟨hU4, hc4⟩ := ‹Up wr w3 ∧ _›
        have y1 : w.heap.size + 1 < w3.heap.size := by have := hU4.size; omega
        go_wp2_with fail
        go_ret
        exact ⟨ret_bool rfl, hB5.trans (Below.mono hU4 (by omega))⟩
      · have hs0 : s = true := by rw [hs, hp]; rfl
        subst hs0
        clear hs hfz hB
        have hq : (j : Int) % 2 = 1 := by omega
        go_wp2_with fail
        have y0 : w.heap.size < wr.heap.size := by omega
        go_region_held3 (fun w' => Up wr w' ∧ ∀ b o, b < wr.heap.size → w'.cell? ⟨b, o, none⟩ = wr.cell? ⟨b, o, none⟩) (first | exact ⟨by assumption, by assumption⟩ | go_keep) (first | (go_at_call 6; refine (HR.out _ _ _).mono ?_; rintro e w3 ⟨rfl, hB3⟩; have hU3 : Up wr w3 := (by first | exact Up.trans (by assumption) hB3 | exact Up.trans (Up.drew (Up.refl wr)) hB3); have hc3 : ∀ b o, b < wr.heap.size → w3.cell? ⟨b, o, none⟩ = wr.cell? ⟨b, o, none⟩ := (fun b o hb => hU3.cell hb)))
        obtain ⟨hU4, hc4⟩ := ‹Up wr w3 ∧ _›
        have y1 : w.heap.size + 1 < w3.heap.size := by have := hU4.size; omega
        go_wp2_with fail
        go_ret
        exact ⟨ret_bool rfl, hB5.trans (Below.mono hU4 (by omega))⟩
end Go.Proofs.Ythaffmnoffjblaa
