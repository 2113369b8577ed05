/- The walks of the laws over bits: each returns true. -/
import Derived.Test.YtodoacilhlcmjaaBC
namespace Go.Proofs.Ytodoacilhlcmjaa
open Go.RowKit
attribute [local go_sem] BM.and15 BM.and65535

theorem tmod_rng (a m : Int) (h : 1 ≤ m) : -m < a.tmod m ∧ a.tmod m < m := ⟨(BM.tmod_cases a m h).1, (BM.tmod_cases a m h).2.1⟩

theorem walk_bitsAdds (a : Int) (_ha : -9223372036854775808 ≤ a ∧ a ≤ 9223372036854775807) (b : Int) (_hb : -9223372036854775808 ≤ b ∧ b ≤ 9223372036854775807) (w : World) :
    Calls Try.prog 3 #[.int .i64 a, .int .i64 b] w fun e w' => e = .returned (.bool true) ∧ Below w.heap.size w w' := by
  have hx := tmod_rng a 1099511627776 (by omega)
  have hy := tmod_rng b 1099511627776 (by omega)
  obtain ⟨hx0, hx1⟩ := hx
  obtain ⟨hy0, hy1⟩ := hy
  have h1 : 0 ≤ a.tmod 1099511627776 % 256 := by omega
  have h2 : a.tmod 1099511627776 % 256 ≤ 255 := by omega
  have h3 : 0 ≤ b.tmod 1099511627776 % 256 := by omega
  have h4 : b.tmod 1099511627776 % 256 ≤ 255 := by omega
  have h5 : 0 ≤ a.tmod 1099511627776 % 65536 := by omega
  have h6 : a.tmod 1099511627776 % 65536 ≤ 65535 := by omega
  have h7 : 0 ≤ b.tmod 1099511627776 % 65536 := by omega
  have h8 : b.tmod 1099511627776 % 65536 ≤ 65535 := by omega
  have h9 : 0 ≤ a.tmod 1099511627776 / 256 % 256 := by omega
  have h10 : a.tmod 1099511627776 / 256 % 256 ≤ 255 := by omega
  have e1 : ((a.tmod 1099511627776 + b.tmod 1099511627776) % 256 == (a.tmod 1099511627776 % 256 + b.tmod 1099511627776 % 256) % 256) = true := by rw [beq_iff_eq]; omega
  have e2 : ((a.tmod 1099511627776 + b.tmod 1099511627776) % 65536 == (a.tmod 1099511627776 % 65536 + b.tmod 1099511627776 % 65536) % 65536) = true := by rw [beq_iff_eq]; omega
  have e3 : (a.tmod 1099511627776 % 65536 == a.tmod 1099511627776 % 256 + 256 * (a.tmod 1099511627776 / 256 % 256)) = true := by rw [beq_iff_eq]; omega
  go_enter Try.func3, Try.ntmps3
  go_wp2_with (first | (go_at_call 10; refine (split_any _ _).mono ?_; rintro e w' ⟨rfl, rfl⟩) | (go_at_call 11; refine (byte_any _ _).mono ?_; rintro e w' ⟨rfl, rfl⟩) | (go_at_call 12; refine (word_any _ _).mono ?_; rintro e w' ⟨rfl, rfl⟩))
  go_ret
  exact ⟨ret_bool rfl, Below.refl _ _⟩

theorem walk_bitsOrder (a : Int) (_ha : -9223372036854775808 ≤ a ∧ a ≤ 9223372036854775807) (b : Int) (_hb : -9223372036854775808 ≤ b ∧ b ≤ 9223372036854775807) (w : World) :
    Calls Try.prog 4 #[.int .i64 a, .int .i64 b] w fun e w' => e = .returned (.bool true) ∧ Below w.heap.size w w' := by
  have e1 : (a % 256 + 256 * (a % 65536 / 256 % 256) == a % 65536) = true := by rw [beq_iff_eq]; omega
  have e2 : (b % 256 + 256 * (b % 65536 / 256 % 256) == b % 65536) = true := by rw [beq_iff_eq]; omega
  by_cases h1 : a % 65536 / 256 % 256 < b % 65536 / 256 % 256
  · have d1 : decide (a % 65536 / 256 % 256 < b % 65536 / 256 % 256) = true := by rw [decide_eq_true_eq]; omega
    have d4 : decide (a % 65536 < b % 65536) = true := by rw [decide_eq_true_eq]; omega
    clear h1
    go_enter Try.func4, Try.ntmps4
    go_wp2_with (first | (go_at_call 10; refine (split_any _ _).mono ?_; rintro e w' ⟨rfl, rfl⟩) | (go_at_call 13; refine (join_any _ _ _).mono ?_; rintro e w' ⟨rfl, hB⟩))
    go_ret
    exact ⟨ret_bool rfl, (by repeat (first | exact Up.refl _ | assumption | refine Up.trans ?_ (by assumption)))⟩
  · by_cases h2 : a % 65536 / 256 % 256 = b % 65536 / 256 % 256
    · by_cases h3 : a % 256 < b % 256
      · have d1 : decide (a % 65536 / 256 % 256 < b % 65536 / 256 % 256) = false := by rw [decide_eq_false_iff_not]; omega
        have d2 : (a % 65536 / 256 % 256 == b % 65536 / 256 % 256) = true := by rw [beq_iff_eq]; omega
        have d3 : decide (a % 256 < b % 256) = true := by rw [decide_eq_true_eq]; omega
        have d4 : decide (a % 65536 < b % 65536) = true := by rw [decide_eq_true_eq]; omega
        clear h1 h2 h3
        go_enter Try.func4, Try.ntmps4
        go_wp2_with (first | (go_at_call 10; refine (split_any _ _).mono ?_; rintro e w' ⟨rfl, rfl⟩) | (go_at_call 13; refine (join_any _ _ _).mono ?_; rintro e w' ⟨rfl, hB⟩))
        go_ret
        exact ⟨ret_bool rfl, (by repeat (first | exact Up.refl _ | assumption | refine Up.trans ?_ (by assumption)))⟩
      · have d1 : decide (a % 65536 / 256 % 256 < b % 65536 / 256 % 256) = false := by rw [decide_eq_false_iff_not]; omega
        have d2 : (a % 65536 / 256 % 256 == b % 65536 / 256 % 256) = true := by rw [beq_iff_eq]; omega
        have d3 : decide (a % 256 < b % 256) = false := by rw [decide_eq_false_iff_not]; omega
        have d4 : decide (a % 65536 < b % 65536) = false := by rw [decide_eq_false_iff_not]; omega
        clear h1 h2 h3
        go_enter Try.func4, Try.ntmps4
        go_wp2_with (first | (go_at_call 10; refine (split_any _ _).mono ?_; rintro e w' ⟨rfl, rfl⟩) | (go_at_call 13; refine (join_any _ _ _).mono ?_; rintro e w' ⟨rfl, hB⟩))
        go_ret
        exact ⟨ret_bool rfl, (by repeat (first | exact Up.refl _ | assumption | refine Up.trans ?_ (by assumption)))⟩
    · have d1 : decide (a % 65536 / 256 % 256 < b % 65536 / 256 % 256) = false := by rw [decide_eq_false_iff_not]; omega
      have d2 : (a % 65536 / 256 % 256 == b % 65536 / 256 % 256) = false := by rw [beq_eq_false_iff_ne]; omega
      have d4 : decide (a % 65536 < b % 65536) = false := by rw [decide_eq_false_iff_not]; omega
      clear h1 h2
      go_enter Try.func4, Try.ntmps4
      go_wp2_with (first | (go_at_call 10; refine (split_any _ _).mono ?_; rintro e w' ⟨rfl, rfl⟩) | (go_at_call 13; refine (join_any _ _ _).mono ?_; rintro e w' ⟨rfl, hB⟩))
      go_ret
      exact ⟨ret_bool rfl, (by repeat (first | exact Up.refl _ | assumption | refine Up.trans ?_ (by assumption)))⟩
end Go.Proofs.Ytodoacilhlcmjaa
