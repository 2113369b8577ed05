/- Plain facts on the masks of the registers: the sum of the bits of two words that are in both is their 'and'. No program in sight. -/
import Derived.Test.YthlacommhklkkaaBM
namespace Go.Proofs.Ythlacommhklkkaa
open Go.RowKit

def maskL : List Int := [65535, 65535, 65535, 0, 0, 8191, 1023, 1023, 511, 255, 32543, 32639, 65311, 511, 255, 31, 65535, 65535, 65535, 65535]
theorem maskL_rng : ∀ j, j < 20 → 0 ≤ maskL.getD j 0 ∧ maskL.getD j 0 ≤ 65535 := by decide

def onlyTo (n m : Int) : Nat → Int
  | 0 => 0
  | k + 1 => onlyTo n m k + BM.vBit n k * BM.vBit m k * 2 ^ k
theorem and_rng (n m : Int) (hn : 0 ≤ n ∧ n ≤ 65535) (hm : 0 ≤ m ∧ m ≤ 65535) : 0 ≤ bits .and .i64 n m ∧ bits .and .i64 n m ≤ n ∧ bits .and .i64 n m ≤ m := by
  obtain ⟨a, rfl⟩ := Int.eq_ofNat_of_zero_le hn.1
  obtain ⟨b, rfl⟩ := Int.eq_ofNat_of_zero_le hm.1
  rw [BM.and_nat a b (by omega) (by omega)]
  have h1 := Nat.and_le_left (n := a) (m := b)
  have h2 := Nat.and_le_right (n := a) (m := b)
  omega
theorem onlyTo_mod (n m : Int) : ∀ k, k ≤ 16 → onlyTo n m k = bits .and .i64 n m % 2 ^ k
  | 0, _ => by simp [onlyTo]
  | k + 1, h => by
    have hb := BM.bt_and n m k (by omega)
    have e1 := BM.vBit_bt n k (by omega)
    have e2 := BM.vBit_bt m k (by omega)
    have e3 := BM.mod_bt (bits .and .i64 n m) k
    rw [onlyTo, onlyTo_mod n m k (by omega), e1, e2]
    rw [hb] at e3
    generalize bits .and .i64 n m = x at *
    have hp : (0 : Int) < 2 ^ k := Int.pow_pos (by decide)
    have hx : x % 2 ^ (k + 1) = x % 2 ^ k + 2 ^ k * (x / 2 ^ k % 2) := by
      rw [Int.pow_succ]
      rw [Int.emod_def x (2 ^ k * 2), Int.emod_def x (2 ^ k), Int.emod_def (x / 2 ^ k) 2, ← Int.ediv_ediv_of_nonneg (by omega)]
      rw [Int.mul_sub, Int.mul_assoc]; omega
    rw [hx, e3]
    cases BM.bt n k <;> cases BM.bt m k <;> simp
theorem only_and (n m : Int) (hn : 0 ≤ n ∧ n ≤ 65535) (hm : 0 ≤ m ∧ m ≤ 65535) : onlyTo n m 16 = bits .and .i64 n m := by
  have h := and_rng n m hn hm
  rw [onlyTo_mod n m 16 (by omega)]
  omega
theorem onlyTo_rng (n m : Int) (k : Nat) (hk : k ≤ 16) : 0 ≤ onlyTo n m k ∧ onlyTo n m k ≤ 65535 := by
  rw [onlyTo_mod n m k hk]
  have hp : (0 : Int) < 2 ^ k := Int.pow_pos (by decide)
  have h1 := Int.emod_nonneg (bits .and .i64 n m) (by omega : (2 : Int) ^ k ≠ 0)
  have h2 := Int.emod_lt_of_pos (bits .and .i64 n m) hp
  have h3 : (2 : Int) ^ k ≤ 2 ^ 16 := BM.pow_le 16 k hk
  omega
/-- A word may be where a mask is: no bit beside it. -/
theorem andNot_zero (x m : Int) (hx : -9223372036854775808 ≤ x ∧ x ≤ 9223372036854775807) (hm : 0 ≤ m ∧ m ≤ 65535) :
    (bits .andNot .i64 x m != 0) = (decide (x < 0) || decide (65535 < x) || (onlyTo x m 16 != x)) := by
  have key : bits .andNot .i64 x m = 0 ↔ (0 ≤ x ∧ x ≤ 65535 ∧ bits .and .i64 x m = x) := by
    constructor
    · intro h
      have hb : ∀ i, i < 64 → (BM.bt x i && !BM.bt m i) = false := fun i hi => by rw [← BM.bt_andNot x m i hi, h]; simp [BM.bt]
      have e : bits .and .i64 x m = x := BM.ext _ _ (BM.rng _ _ _) hx (fun i hi => by rw [BM.bt_and x m i hi]; have := hb i hi; cases h1 : BM.bt x i <;> cases h2 : BM.bt m i <;> simp_all)
      have e2 : x % 2 ^ 16 = x := BM.ext _ _ (BM.mod_rng _ _ (by decide)) hx (fun i hi => by
        rw [BM.bt_mod]
        by_cases hi2 : i < 16
        · simp [hi2]
        · have hm2 : BM.bt m i = false := by
            have : m % 2 ^ 16 = m := by omega
            rw [← this, BM.bt_mod]; simp [hi2]
          have := hb i hi
          simp_all)
      exact ⟨by omega, by omega, e⟩
    · rintro ⟨h0, h1, h⟩
      refine BM.ext _ _ (BM.rng _ _ _) (by omega) fun i hi => ?_
      rw [BM.bt_andNot x m i hi]
      have : BM.bt x i = (BM.bt x i && BM.bt m i) := by rw [← BM.bt_and x m i hi, h]
      rw [this]
      have z : BM.bt 0 i = false := by simp [BM.bt]
      rw [z]
      cases BM.bt x i <;> cases BM.bt m i <;> rfl
  by_cases h0 : x < 0
  · have : ¬ bits .andNot .i64 x m = 0 := fun h => by have := key.1 h; omega
    simp [h0, this]
  · by_cases h1 : 65535 < x
    · have : ¬ bits .andNot .i64 x m = 0 := fun h => by have := key.1 h; omega
      simp [h1, this]
    · rw [only_and x m (by omega) hm]
      by_cases h2 : bits .and .i64 x m = x
      · have := key.2 ⟨by omega, by omega, h2⟩
        simp [h0, h1, h2, this]
      · have : ¬ bits .andNot .i64 x m = 0 := fun h => h2 (key.1 h).2.2
        rw [bne_iff_ne.2 this, bne_iff_ne.2 h2]
        simp [h0, h1]
end Go.Proofs.Ythlacommhklkkaa
