/- The walks of the laws ModeMoves and ModeStays: each returns true. -/
import Derived.Test.YtmbfcbjnidgieaaA
import Derived.Test.YtmbfcbjnidgieaaOP
namespace Go.Proofs.Ytmbfcbjnidgieaa
open Go.RowKit
attribute [local go_sem] BM.and127 BM.and255 BM.and65535

set_option maxHeartbeats 4000000 in
set_option maxRecDepth 100000 in
theorem walk_modeMoves (o : Int) (_ho : -9223372036854775808 ≤ o ∧ o ≤ 9223372036854775807) (x : Int) (_hx : -9223372036854775808 ≤ x ∧ x ≤ 9223372036854775807) (w : World) :
    Calls Try.prog 3 #[.int .i64 o, .int .i64 x] w fun e w' => e = .returned (.bool true) ∧ Below w.heap.size w w' := by
  obtain ⟨X, hX⟩ : ∃ a, x % 128 = a := ⟨_, rfl⟩
  have X0 : 0 ≤ X := by omega
  have X1 : X ≤ 127 := by omega
  obtain ⟨A, hA⟩ : ∃ a, (o + X) % 65536 = a := ⟨_, rfl⟩
  obtain ⟨B, hB⟩ : ∃ a, (o + (X + 1)) % 65536 = a := ⟨_, rfl⟩
  obtain ⟨C, hC⟩ : ∃ a, 8192 + (o + X) % 256 = a := ⟨_, rfl⟩
  obtain ⟨D, hD⟩ : ∃ a, 8192 + (o + (X + 1)) % 256 = a := ⟨_, rfl⟩
  have A0 : 0 ≤ A := by omega
  have A1 : A ≤ 65535 := by omega
  have C0 : 8192 ≤ C := by omega
  have C1 : C ≤ 8447 := by omega
  have t1 : (B != (A + 1) % 65536) = false := by rw [show B = (A + 1) % 65536 by omega]; simp
  have t2 : (D != bits .or .i64 8192 ((C + 1) % 256)) = false := by rw [or8192 _ (by omega) (by omega), show D = 8192 + (C + 1) % 256 by omega]; simp
  have t3 : (A == A) = true := beq_self_eq_true _
  have P10 := Lib.hid (show ∀ w, Calls Try.prog 7 #[.int .i64 10, .agg #[.int .i64 (X), .int .i64 (0)], .int .i64 (o), .int .i64 (0)] w (fun e w' => e = .returned (.tuple #[.int .i64 A, .bool true]) ∧ Up w w') from fun w => hA ▸ address_10 X 0 o 0 w)
  have Q10 := Lib.hid (show ∀ w, Calls Try.prog 7 #[.int .i64 10, .agg #[.int .i64 (X + 1), .int .i64 (0)], .int .i64 (o), .int .i64 (0)] w (fun e w' => e = .returned (.tuple #[.int .i64 B, .bool true]) ∧ Up w w') from fun w => hB ▸ address_10 (X + 1) 0 o 0 w)
  have P20 := Lib.hid (show ∀ w, Calls Try.prog 7 #[.int .i64 20, .agg #[.int .i64 (X), .int .i64 (0)], .int .i64 (o), .int .i64 (0)] w (fun e w' => e = .returned (.tuple #[.int .i64 A, .bool true]) ∧ Up w w') from fun w => hA ▸ address_20 X 0 o 0 w)
  have Q20 := Lib.hid (show ∀ w, Calls Try.prog 7 #[.int .i64 20, .agg #[.int .i64 (X + 1), .int .i64 (0)], .int .i64 (o), .int .i64 (0)] w (fun e w' => e = .returned (.tuple #[.int .i64 B, .bool true]) ∧ Up w w') from fun w => hB ▸ address_20 (X + 1) 0 o 0 w)
  have P4 := Lib.hid (show ∀ w, Calls Try.prog 7 #[.int .i64 4, .agg #[.int .i64 (X), .int .i64 (0)], .int .i64 (o), .int .i64 (0)] w (fun e w' => e = .returned (.tuple #[.int .i64 C, .bool true]) ∧ Up w w') from fun w => hC ▸ address_4 X 0 o 0 w)
  have Q4 := Lib.hid (show ∀ w, Calls Try.prog 7 #[.int .i64 4, .agg #[.int .i64 (X + 1), .int .i64 (0)], .int .i64 (o), .int .i64 (0)] w (fun e w' => e = .returned (.tuple #[.int .i64 D, .bool true]) ∧ Up w w') from fun w => hD ▸ address_4 (X + 1) 0 o 0 w)
  have P18 := Lib.hid (show ∀ w, Calls Try.prog 7 #[.int .i64 18, .agg #[.int .i64 (X), .int .i64 (0)], .int .i64 (o), .int .i64 (0)] w (fun e w' => e = .returned (.tuple #[.int .i64 C, .bool true]) ∧ Up w w') from fun w => hC ▸ address_18 X 0 o 0 w)
  have Q18 := Lib.hid (show ∀ w, Calls Try.prog 7 #[.int .i64 18, .agg #[.int .i64 (X + 1), .int .i64 (0)], .int .i64 (o), .int .i64 (0)] w (fun e w' => e = .returned (.tuple #[.int .i64 D, .bool true]) ∧ Up w w') from fun w => hD ▸ address_18 (X + 1) 0 o 0 w)
  have P11 := Lib.hid (show ∀ w, Calls Try.prog 7 #[.int .i64 11, .agg #[.int .i64 (0), .int .i64 (X)], .int .i64 (o), .int .i64 (0)] w (fun e w' => e = .returned (.tuple #[.int .i64 A, .bool true]) ∧ Up w w') from fun w => hA ▸ address_11 0 X o 0 w)
  clear hA hB hC hD
  go_enter Try.func3, Try.ntmps3
  go_wp2
  go_loopw [20] (fun i wr => ∃ k : Nat, k ≤ 4 ∧ i = .int .i64 k ∧ Up (w.alloc (.cells #[.int .i64 10, .int .i64 20, .int .i64 4, .int .i64 18] 3)) wr) (fun i _ => 4 - (intOf i).toNat)
  case atStart => exact ⟨0, by omega, rfl, Up.refl _⟩
  case round =>
    obtain ⟨k, hk, rfl, hU⟩ := hrel
    have hk5 : k = 0 ∨ k = 1 ∨ k = 2 ∨ k = 3 ∨ k = 4 := by omega
    rcases hk5 with rfl | rfl | rfl | rfl | rfl
    · have hc : wr.cell? ⟨w.heap.size, 0, none⟩ = some (.int .i64 10) := by rw [hU.cell (by simp)]; go_simp
      go_wp2_with fail
      refine (P10.out _).mono ?_; rintro e w1 ⟨rfl, hU1⟩
      go_wp2_with fail
      refine (Q10.out _).mono ?_; rintro e w2 ⟨rfl, hU2⟩
      go_wp2
      go_roundw
      case rel => exact ⟨1, by omega, by go_num, (hU.trans hU1).trans hU2⟩
      case measure => simp [intOf]
    · have hc : wr.cell? ⟨w.heap.size, 1, none⟩ = some (.int .i64 20) := by rw [hU.cell (by simp)]; go_simp
      go_wp2_with fail
      refine (P20.out _).mono ?_; rintro e w1 ⟨rfl, hU1⟩
      go_wp2_with fail
      refine (Q20.out _).mono ?_; rintro e w2 ⟨rfl, hU2⟩
      go_wp2
      go_roundw
      case rel => exact ⟨2, by omega, by go_num, (hU.trans hU1).trans hU2⟩
      case measure => simp [intOf]
    · have hc : wr.cell? ⟨w.heap.size, 2, none⟩ = some (.int .i64 4) := by rw [hU.cell (by simp)]; go_simp
      go_wp2_with fail
      refine (P4.out _).mono ?_; rintro e w1 ⟨rfl, hU1⟩
      go_wp2_with fail
      refine (Q4.out _).mono ?_; rintro e w2 ⟨rfl, hU2⟩
      go_wp2
      go_roundw
      case rel => exact ⟨3, by omega, by go_num, (hU.trans hU1).trans hU2⟩
      case measure => simp [intOf]
    · have hc : wr.cell? ⟨w.heap.size, 3, none⟩ = some (.int .i64 18) := by rw [hU.cell (by simp)]; go_simp
      go_wp2_with fail
      refine (P18.out _).mono ?_; rintro e w1 ⟨rfl, hU1⟩
      go_wp2_with fail
      refine (Q18.out _).mono ?_; rintro e w2 ⟨rfl, hU2⟩
      go_wp2
      go_roundw
      case rel => exact ⟨4, by omega, by go_num, (hU.trans hU1).trans hU2⟩
      case measure => simp [intOf]
    · go_wp2_with fail
      refine (P11.out _).mono ?_; rintro e w1 ⟨rfl, hU1⟩
      go_wp2_with fail
      refine (P10.out _).mono ?_; rintro e w2 ⟨rfl, hU2⟩
      go_wp2
      go_ret
      exact ⟨ret_bool (by first | rfl | exact beq_self_eq_true _), (((Up.refl _).alloc _).trans hU).trans (hU1.trans hU2)⟩

theorem xor256 (x : Int) (hx : -9223372036854775808 ≤ x ∧ x ≤ 9223372036854775807) : ∃ y, bits .xor .i64 x 256 = y ∧ y % 256 = x % 256 ∧ -9223372036854775808 ≤ y ∧ y ≤ 9223372036854775807 := by
  have h := BM.xor_bit x 8 (by omega) hx
  have hr := BM.rng .xor x 256
  rw [show (2 : Int) ^ 8 = 256 from rfl] at h
  refine ⟨_, rfl, ?_, hr.1, hr.2⟩
  rw [h]
  split <;> omega

set_option maxHeartbeats 4000000 in
set_option maxRecDepth 100000 in
theorem walk_modeStays (o : Int) (ho : -9223372036854775808 ≤ o ∧ o ≤ 9223372036854775807) (x : Int) (hx : -9223372036854775808 ≤ x ∧ x ≤ 9223372036854775807) (pc : Int) (_hp : -9223372036854775808 ≤ pc ∧ pc ≤ 9223372036854775807) (w : World) :
    Calls Try.prog 4 #[.int .i64 o, .int .i64 x, .int .i64 pc] w fun e w' => e = .returned (.bool true) ∧ Below w.heap.size w w' := by
  obtain ⟨y, hy, hy1, _, _⟩ := xor256 x hx
  obtain ⟨q, hq, hq1, _, _⟩ := xor256 o ho
  obtain ⟨A, hA⟩ : ∃ a, 8192 + o % 256 = a := ⟨_, rfl⟩
  obtain ⟨B, hB⟩ : ∃ a, 8192 + (o + x) % 256 = a := ⟨_, rfl⟩
  have A0 : 8192 ≤ A := by omega
  have A1 : A ≤ 8447 := by omega
  have B0 : 8192 ≤ B := by omega
  have B1 : B ≤ 8447 := by omega
  have hA' : 8192 + q % 256 = A := by omega
  have hB' : 8192 + (q + y) % 256 = B := by omega
  have t1 : (A != A) = false := by simp
  have t2 : (B != B) = false := by simp
  obtain ⟨PC, hPC⟩ : ∃ a, pc % 65536 = a := ⟨_, rfl⟩
  obtain ⟨T, hT⟩ : ∃ a, vT PC o = a := ⟨_, rfl⟩
  have hT' : (PC + ((o + 128) % 256 - 128)) % 65536 = T := hT
  have hP0 : 0 ≤ PC := by omega
  have hP1 : PC ≤ 65535 := by omega
  have hT0 : 0 ≤ T := by omega
  have hT1 : T ≤ 65535 := by omega
  have d0 : 0 ≤ (T - PC + 65536 + 128) % 65536 := by omega
  have d1 : (T - PC + 65536 + 128) % 65536 ≤ 255 := by omega
  have TG := Lib.hid (show ∀ w, Calls Try.prog 8 #[.int .i64 PC, .int .i64 o] w (fun e w' => e = .returned (.int .i64 T) ∧ w = w') from fun w => hT ▸ target_any PC o w)
  have T0 := Lib.hid (show ∀ w, Calls Try.prog 8 #[.int .i64 PC, .int .i64 0] w (fun e w' => e = .returned (.int .i64 PC) ∧ w = w') from fun w => by have h := target_any PC 0 w; rw [show vT PC 0 = PC by unfold vT; omega] at h; exact h)
  have F1 := Lib.hid (show ∀ w, Calls Try.prog 9 #[.int .i64 8447, .bool true] w (fun e w' => e = .returned (.int .i64 8192) ∧ w = w') from fun w => after_any 8447 true w)
  have F2 := Lib.hid (show ∀ w, Calls Try.prog 9 #[.int .i64 8447, .bool false] w (fun e w' => e = .returned (.int .i64 8448) ∧ w = w') from fun w => after_any 8447 false w)
  have P3 := Lib.hid (show ∀ w, Calls Try.prog 7 #[.int .i64 3, .agg #[.int .i64 (x), .int .i64 (x)], .int .i64 (o), .int .i64 (0)] w (fun e w' => e = .returned (.tuple #[.int .i64 A, .bool true]) ∧ Up w w') from fun w => hA ▸ address_3 x x o 0 w)
  have Q3 := Lib.hid (show ∀ w, Calls Try.prog 7 #[.int .i64 3, .agg #[.int .i64 (y), .int .i64 (y)], .int .i64 (q), .int .i64 (0)] w (fun e w' => e = .returned (.tuple #[.int .i64 A, .bool true]) ∧ Up w w') from fun w => hA' ▸ address_3 y y q 0 w)
  have P4 := Lib.hid (show ∀ w, Calls Try.prog 7 #[.int .i64 4, .agg #[.int .i64 (x), .int .i64 (x)], .int .i64 (o), .int .i64 (0)] w (fun e w' => e = .returned (.tuple #[.int .i64 B, .bool true]) ∧ Up w w') from fun w => hB ▸ address_4 x x o 0 w)
  have Q4 := Lib.hid (show ∀ w, Calls Try.prog 7 #[.int .i64 4, .agg #[.int .i64 (y), .int .i64 (y)], .int .i64 (q), .int .i64 (0)] w (fun e w' => e = .returned (.tuple #[.int .i64 B, .bool true]) ∧ Up w w') from fun w => hB' ▸ address_4 y y q 0 w)
  have P5 := Lib.hid (show ∀ w, Calls Try.prog 7 #[.int .i64 5, .agg #[.int .i64 (x), .int .i64 (x)], .int .i64 (o), .int .i64 (0)] w (fun e w' => e = .returned (.tuple #[.int .i64 B, .bool true]) ∧ Up w w') from fun w => hB ▸ address_5 x x o 0 w)
  have Q5 := Lib.hid (show ∀ w, Calls Try.prog 7 #[.int .i64 5, .agg #[.int .i64 (y), .int .i64 (y)], .int .i64 (q), .int .i64 (0)] w (fun e w' => e = .returned (.tuple #[.int .i64 B, .bool true]) ∧ Up w w') from fun w => hB' ▸ address_5 y y q 0 w)
  clear hA hB hA' hB' hT hT' hy1 hq1
  go_enter Try.func4, Try.ntmps4
  go_wp2
  go_loopw [17] (fun i wr => ∃ k : Nat, k ≤ 3 ∧ i = .int .i64 k ∧ Up (w.alloc (.cells #[.int .i64 3, .int .i64 4, .int .i64 5] 3)) wr) (fun i _ => 3 - (intOf i).toNat)
  case atStart => exact ⟨0, by omega, rfl, Up.refl _⟩
  case round =>
    obtain ⟨k, hk, rfl, hU⟩ := hrel
    have hk5 : k = 0 ∨ k = 1 ∨ k = 2 ∨ k = 3 := by omega
    rcases hk5 with rfl | rfl | rfl | rfl
    · have hc : wr.cell? ⟨w.heap.size, 0, none⟩ = some (.int .i64 3) := by rw [hU.cell (by simp)]; go_simp
      go_wp2_with fail
      refine (P3.out _).mono ?_; rintro e w1 ⟨rfl, hU1⟩
      go_wp2_with fail
      refine (Q3.out _).mono ?_; rintro e w2 ⟨rfl, hU2⟩
      go_wp2
      go_roundw
      case rel => exact ⟨1, by omega, by go_num, (hU.trans hU1).trans hU2⟩
      case measure => simp [intOf]
    · have hc : wr.cell? ⟨w.heap.size, 1, none⟩ = some (.int .i64 4) := by rw [hU.cell (by simp)]; go_simp
      go_wp2_with fail
      refine (P4.out _).mono ?_; rintro e w1 ⟨rfl, hU1⟩
      go_wp2_with fail
      refine (Q4.out _).mono ?_; rintro e w2 ⟨rfl, hU2⟩
      go_wp2
      go_roundw
      case rel => exact ⟨2, by omega, by go_num, (hU.trans hU1).trans hU2⟩
      case measure => simp [intOf]
    · have hc : wr.cell? ⟨w.heap.size, 2, none⟩ = some (.int .i64 5) := by rw [hU.cell (by simp)]; go_simp
      go_wp2_with fail
      refine (P5.out _).mono ?_; rintro e w1 ⟨rfl, hU1⟩
      go_wp2_with fail
      refine (Q5.out _).mono ?_; rintro e w2 ⟨rfl, hU2⟩
      go_wp2
      go_roundw
      case rel => exact ⟨3, by omega, by go_num, (hU.trans hU1).trans hU2⟩
      case measure => simp [intOf]
    · go_wp2_with fail
      refine (TG.out _).mono ?_; rintro e w1 ⟨rfl, rfl⟩
      go_wp2_with fail
      refine (T0.out _).mono ?_; rintro e w1 ⟨rfl, rfl⟩
      go_wp2_with fail
      refine (F1.out _).mono ?_; rintro e w1 ⟨rfl, rfl⟩
      go_wp2_with fail
      refine (F2.out _).mono ?_; rintro e w1 ⟨rfl, rfl⟩
      go_wp2
      go_ret
      exact ⟨ret_bool (by first | rfl | simp), ((Up.refl _).alloc _).trans hU⟩
end Go.Proofs.Ytmbfcbjnidgieaa
