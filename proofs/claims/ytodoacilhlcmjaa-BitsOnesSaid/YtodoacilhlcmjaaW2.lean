/- The walks of the laws over bits, the second part: each returns true. -/
import Derived.Test.YtodoacilhlcmjaaBC
namespace Go.Proofs.Ytodoacilhlcmjaa
open Go.RowKit
attribute [local go_sem] BM.and15 BM.and65535

theorem walk_bitsTells (a : Int) (ha : -9223372036854775808 ≤ a ∧ a ≤ 9223372036854775807) (b : Int) (hb : -9223372036854775808 ≤ b ∧ b ≤ 9223372036854775807) (w : World) :
    Calls Try.prog 5 #[.int .i64 a, .int .i64 b] w fun e w' => e = .returned (.bool true) ∧ Below w.heap.size w w' := by
  have h0 : 0 ≤ a % 65536 := by omega
  have h1 : a % 65536 ≤ 65535 := by omega
  have e1 : (a / 256 % 256 == a % 65536 / 256) = true := by rw [beq_iff_eq]; omega
  go_enter Try.func5, Try.ntmps5
  go_wp2_with (first | (go_at_call 10; refine (split_any _ _).mono ?_; rintro e w' ⟨rfl, rfl⟩) | (go_at_call 13; refine (join_any _ _ _).mono ?_; rintro e w' ⟨rfl, hB⟩) | (go_at_call 11; refine (byte_any _ _).mono ?_; rintro e w' ⟨rfl, rfl⟩) | (go_at_call 12; refine (word_any _ _).mono ?_; rintro e w' ⟨rfl, rfl⟩) | (go_at_call 14; refine (rbyte_any _ _ ha).mono ?_; rintro e w' ⟨rfl, rfl⟩) | (go_at_call 15; refine (rword_any _ _ ha).mono ?_; rintro e w' ⟨rfl, rfl⟩) | (go_at_call 16; refine (rjoin_any _ _ _ ha hb).mono ?_; rintro e w' ⟨rfl, rfl⟩) | (go_at_call 17; refine (signed_any _ _).mono ?_; rintro e w' ⟨rfl, rfl⟩) | (go_at_call 18; refine (rsigned_any _ _ ha).mono ?_; rintro e w' ⟨rfl, rfl⟩))
  go_ret
  exact ⟨ret_bool rfl, (by repeat (first | exact Up.refl _ | assumption | refine Up.trans ?_ (by assumption)))⟩

theorem walk_bitsAsks (n : Int) (hn : -9223372036854775808 ≤ n ∧ n ≤ 9223372036854775807) (k : Int) (_hk : -9223372036854775808 ≤ k ∧ k ≤ 9223372036854775807) (on : Bool) (w : World) :
    Calls Try.prog 8 #[.int .i64 n, .int .i64 k, .bool on] w fun e w' => e = .returned (.bool true) ∧ Below w.heap.size w w' := by
  have e1 : (BM.vRev 1 == 128) = true := by decide +kernel
  go_enter Try.func8, Try.ntmps8
  go_wp2_with (first | (go_at_call 20; refine (bit_any _ _ _).mono ?_; rintro e w' ⟨rfl, rfl⟩) | (go_at_call 22; refine (rbit_any _ _ _ hn).mono ?_; rintro e w' ⟨rfl, rfl⟩) | (go_at_call 19; refine (put_any _ _ _ hn _).mono ?_; rintro e w' ⟨rfl, rfl⟩) | (go_at_call 23; refine (rput_any _ _ _ _ hn).mono ?_; rintro e w' ⟨rfl, rfl⟩) | (go_at_call 24; refine (reverse_any _ _).mono ?_; rintro e w' ⟨rfl, rfl⟩) | (go_at_call 25; refine (rreverse_any _ _ hn).mono ?_; rintro e w' ⟨rfl, rfl⟩) | (go_at_call 21; refine (ones_any _ _).mono ?_; rintro e w' ⟨rfl, rfl⟩) | (go_at_call 26; refine (rones_any _ _ hn).mono ?_; rintro e w' ⟨rfl, rfl⟩))
  go_ret
  exact ⟨ret_bool rfl, Below.refl _ _⟩

theorem walk_bitsBack (n : Int) (_hn : -9223372036854775808 ≤ n ∧ n ≤ 9223372036854775807) (w : World) :
    Calls Try.prog 9 #[.int .i64 n] w fun e w' => e = .returned (.bool true) ∧ Below w.heap.size w w' := by
  have e1 : (n % 256 + 256 * (n / 256 % 256) == n % 65536) = true := by rw [beq_iff_eq]; omega
  have e2 : (BM.vRev (BM.vRev n) == n % 256) = true := by rw [beq_iff_eq]; exact (BM.rev_rev n).1
  have e3 : (((n + 128) % 256 - 128) % 256 == n % 256) = true := by rw [beq_iff_eq]; omega
  have e4 : (BM.cnt 16 65535 == 16) = true := by decide +kernel
  have e5 : (BM.cnt 16 (BM.vRev n) == BM.cnt 16 (n % 256)) = true := by rw [beq_iff_eq]; exact (BM.rev_rev n).2
  go_enter Try.func9, Try.ntmps9
  go_wp2_with (first | (go_at_call 10; refine (split_any _ _).mono ?_; rintro e w' ⟨rfl, rfl⟩) | (go_at_call 13; refine (join_any _ _ _).mono ?_; rintro e w' ⟨rfl, hB⟩) | (go_at_call 11; refine (byte_any _ _).mono ?_; rintro e w' ⟨rfl, rfl⟩) | (go_at_call 12; refine (word_any _ _).mono ?_; rintro e w' ⟨rfl, rfl⟩) | (go_at_call 17; refine (signed_any _ _).mono ?_; rintro e w' ⟨rfl, rfl⟩) | (go_at_call 24; refine (reverse_any _ _).mono ?_; rintro e w' ⟨rfl, rfl⟩) | (go_at_call 21; refine (ones_any _ _).mono ?_; rintro e w' ⟨rfl, rfl⟩))
  go_ret
  exact ⟨ret_bool rfl, (by repeat (first | exact Up.refl _ | assumption | refine Up.trans ?_ (by assumption)))⟩

theorem walk_bitsOnes (n : Int) (hn : -9223372036854775808 ≤ n ∧ n ≤ 9223372036854775807) (k : Int) (_hk : -9223372036854775808 ≤ k ∧ k ≤ 9223372036854775807) (w : World) :
    Calls Try.prog 7 #[.int .i64 n, .int .i64 k] w fun e w' => e = .returned (.bool true) ∧ Below w.heap.size w w' := by
  have e1 : (BM.cnt 16 7 == 3) = true := by decide +kernel
  have hc := BM.cnt_le 16 n
  have hc0 : 0 ≤ BM.cnt 16 n := hc.1
  have hc1 : BM.cnt 16 n ≤ 16 := hc.2
  clear hc
  have hv := BM.vBit_rng n (k % 16)
  have hv0 : 0 ≤ BM.vBit n (k % 16) := hv.1
  have hv1 : BM.vBit n (k % 16) ≤ 1 := by rcases hv.2 with h | h <;> rw [h] <;> omega
  have e2 : (BM.cnt 16 (BM.vPut n (k % 16) (BM.vBit n (k % 16) == 0)) == BM.cnt 16 n + 1 - 2 * BM.vBit n (k % 16)) = true := by
    rw [beq_iff_eq]
    obtain ⟨j, hj⟩ := Int.eq_ofNat_of_zero_le (show 0 ≤ k % 16 by omega)
    rw [hj] at hv ⊢
    rw [BM.cnt_put n j _ (by omega) 16 (Nat.le_refl _), if_pos (by omega)]
    rcases hv.2 with h | h <;> rw [h] <;> simp <;> omega
  clear hv
  go_enter Try.func7, Try.ntmps7
  go_wp2
  go_loop [5, 6] (fun s i => ∃ j : Nat, j ≤ 16 ∧ i = .int .i64 j ∧ s = .int .i64 (BM.cnt j n)) (fun _ i => 16 - (intOf i).toNat)
  case atStart => exact ⟨0, by omega, rfl, rfl⟩
  case round =>
    obtain ⟨j, hj, rfl, rfl⟩ := hrel
    by_cases hlt : j < 16
    · have hr := BM.cnt_le j n
      have hr0 : 0 ≤ BM.cnt j n := hr.1
      have hr1 : BM.cnt j n ≤ 16 := by omega
      have hb := BM.vBit_rng n j
      have hb0 : 0 ≤ BM.vBit n j := hb.1
      have hb1 : BM.vBit n j ≤ 1 := by rcases hb.2 with h | h <;> rw [h] <;> omega
      clear hr hb
      go_wp2_with (go_at_call 20; refine (bit_any _ _ _).mono ?_; rintro e w' ⟨rfl, rfl⟩)
      go_round
      case rel => exact ⟨j + 1, by omega, by go_num, rfl⟩
      case measure => simp [intOf]; omega
    · obtain rfl : j = 16 := by omega
      go_wp2_with (first | (go_at_call 20; refine (bit_any _ _ _).mono ?_; rintro e w' ⟨rfl, rfl⟩) | (go_at_call 19; refine (put_any _ _ _ hn _).mono ?_; rintro e w' ⟨rfl, rfl⟩) | (go_at_call 21; refine (ones_any _ _).mono ?_; rintro e w' ⟨rfl, rfl⟩))
      go_ret
      exact ⟨ret_bool rfl, Below.refl _ _⟩

theorem walk_bitsPuts (n : Int) (hn : -9223372036854775808 ≤ n ∧ n ≤ 9223372036854775807) (k : Int) (_hk : -9223372036854775808 ≤ k ∧ k ≤ 9223372036854775807) (on : Bool) (w : World) :
    Calls Try.prog 6 #[.int .i64 n, .int .i64 k, .bool on] w fun e w' => e = .returned (.bool true) ∧ Below w.heap.size w w' := by
  obtain ⟨q, hq⟩ := Int.eq_ofNat_of_zero_le (show 0 ≤ k % 16 by omega)
  have hq15 : q ≤ 15 := by omega
  have hr := BM.vPut_rng n q on hq15
  have e1 : (BM.vPut n q on == BM.vPut n q on % 65536) = true := by rw [beq_iff_eq]; omega
  have e2 : (BM.vBit 5 2 == 1) = true := by decide +kernel
  clear hr
  have hput : ∀ w, Calls Try.prog 19 #[.int .i64 n, .int .i64 (k % 16), .bool on] w fun e w' => e = .returned (.int .i64 (BM.vPut n q on)) ∧ w = w' := by
    intro w
    have := put_any n (k % 16) on hn w
    rw [hq] at this ⊢
    exact this
  have HP := Lib.hid hput
  have HQ := Lib.hid hq
  clear hput hq
  go_enter Try.func6, Try.ntmps6
  go_wp2_with (go_at_call 19; refine (HP.out _).mono ?_; rintro e w' ⟨rfl, rfl⟩)
  go_loop [8] (fun i => ∃ j : Nat, j ≤ 16 ∧ i = .int .i64 j) (fun i => 16 - (intOf i).toNat)
  case atStart => exact ⟨0, by omega, rfl⟩
  case round =>
    obtain ⟨j, hj, rfl⟩ := hrel
    by_cases hlt : j < 16
    · have hb := BM.vBit_put n q j on hq15 (by omega)
      by_cases hjq : j = q
      · rw [if_pos hjq] at hb
        have d1 : ((j : Int) == k % 16) = true := by rw [beq_iff_eq, HQ.out, hjq]
        clear hjq
        cases on
        · have d2 : (BM.vBit (BM.vPut n q false) j != 0) = false := by rw [hb]; rfl
          clear hb
          go_wp2_with (go_at_call 20; refine (bit_any _ _ _).mono ?_; rintro e w' ⟨rfl, rfl⟩)
          go_round
          case rel => exact ⟨j + 1, by omega, by go_num⟩
          case measure => simp [intOf]; omega
        · have d2 : (BM.vBit (BM.vPut n q true) j != 1) = false := by rw [hb]; rfl
          clear hb
          go_wp2_with (go_at_call 20; refine (bit_any _ _ _).mono ?_; rintro e w' ⟨rfl, rfl⟩)
          go_round
          case rel => exact ⟨j + 1, by omega, by go_num⟩
          case measure => simp [intOf]; omega
      · rw [if_neg hjq] at hb
        have d1 : ((j : Int) == k % 16) = false := by rw [beq_eq_false_iff_ne, HQ.out]; omega
        have d2 : (BM.vBit (BM.vPut n q on) j != BM.vBit n j) = false := by rw [hb]; simp
        clear hb
        go_wp2_with (go_at_call 20; refine (bit_any _ _ _).mono ?_; rintro e w' ⟨rfl, rfl⟩)
        go_round
        case rel => exact ⟨j + 1, by omega, by go_num⟩
        case measure => simp [intOf]; omega
    · obtain rfl : j = 16 := by omega
      go_wp2_with (first | (go_at_call 20; refine (bit_any _ _ _).mono ?_; rintro e w' ⟨rfl, rfl⟩) | (go_at_call 12; refine (word_any _ _).mono ?_; rintro e w' ⟨rfl, rfl⟩))
      go_ret
      exact ⟨ret_bool rfl, Below.refl _ _⟩
end Go.Proofs.Ytodoacilhlcmjaa
