/- The walks of the laws TimerNext and TimerRate: each returns true. -/
import Derived.Test.YtmgafhipaeicaaaW
namespace Go.Proofs.Ytmgafhipaeicaaa
open Go.RowKit
attribute [local go_sem] BM.and127 BM.and1048575 BM.and549755813887

set_option maxHeartbeats 2000000 in
set_option maxRecDepth 100000 in
theorem walk_timerNext (c0 : List Value) (f0 : OP.FitsAll [true, true, false, true] c0) (w : World) :
    Calls Try.prog 4 #[.agg ⟨c0⟩] w fun e w' => e = .returned (.bool true) ∧ Below w.heap.size w w' := by
  obtain ⟨r, r0, rfl, _, f1⟩ := OP.cons_int f0
  obtain ⟨c, r1, rfl, _, f2⟩ := OP.cons_int f1
  obtain ⟨on, r2, rfl, f3⟩ := OP.cons_bool f2
  obtain ⟨p, r3, rfl, _, f4⟩ := OP.cons_int f3
  obtain rfl := OP.none_left f4
  clear f0 f1 f2 f3 f4
  obtain ⟨p0, p1⟩ := pre_rng p
  obtain ⟨R, hR⟩ : ∃ x, r % 128 = x := ⟨_, rfl⟩
  obtain ⟨C, hC⟩ : ∃ x, c % 128 = x := ⟨_, rfl⟩
  obtain ⟨P, hP⟩ : ∃ x, (p.tmod 3072 + 3072) % 3072 = x := ⟨_, rfl⟩
  have R0 : 0 ≤ R := by omega
  have R1 : R ≤ 127 := by omega
  have C0 : 0 ≤ C := by omega
  have C1 : C ≤ 127 := by omega
  have P0 : 0 ≤ P := by omega
  have P1 : P ≤ 3071 := by omega
  obtain ⟨N, hN⟩ : ∃ x, (C + 1) * 3072 - P = x := ⟨_, rfl⟩
  have N0 : 1 ≤ N := by omega
  have N1 : N ≤ 393216 := by omega
  have hvn : vNext R C true P = N := by unfold vNext; rw [valid_true R0 R1 C0 C1 P0 P1 rfl]; simpa using hN
  have HN := Lib.hid (fun w => hvn ▸ next_any R C true P w)
  have HZ := Lib.hid (show ∀ w, Calls Try.prog 10 #[.agg #[.int .i64 0, .int .i64 0, .bool false, .int .i64 0]] w fun e w' => e = .returned (.int .i64 (-1)) ∧ Up w w' from fun w => next_any 0 0 false 0 w)
  have A1' := fun w => adv_ge0 R C P (N - 1) R0 R1 C0 C1 P0 P1 (by omega) (by omega) w
  have A2' := fun w => adv_ge0 R C P N R0 R1 C0 C1 P0 P1 (by omega) (by omega) w
  rw [show vRound C R ((P + (N - 1)) / 3072) = 0 by unfold vRound; rw [if_pos (by omega)]] at A1'
  rw [show vRound C R ((P + N) / 3072) = 1 by unfold vRound; rw [if_neg (by omega), show (P + N) / 3072 - (C + 1) = 0 by omega, Int.zero_ediv]; rfl,
    show vCount R C ((P + N) / 3072) = R by unfold vCount; rw [if_neg (by omega), show (P + N) / 3072 - (C + 1) = 0 by omega, Int.zero_emod]; omega, show (P + N) % 3072 = 0 by omega] at A2'
  have H1 := Lib.hid A1'
  have H2 := Lib.hid A2'
  clear A1' A2' hvn hN
  go_enter Try.func4, Try.ntmps4
  go_wp2_with fail
  refine (HN.out _).mono ?_; rintro e w1 ⟨rfl, hU1⟩
  obtain ⟨hc1, hf1, _⟩ := hU1.facts
  have hz1 : w.heap.size < w1.heap.size := by have := hU1.size; (try simp only [World.size_alloc] at this); omega
  go_wp2_with fail
  refine (H1.out _).mono ?_; rintro e w2 ⟨rfl, hU2⟩
  obtain ⟨hc2, hf2, _⟩ := hU2.facts
  have hz2 : w.heap.size < w2.heap.size := by have := hU2.size; (try simp only [World.size_alloc] at this); omega
  go_wp2_with fail
  refine (H2.out _).mono ?_; rintro e w3 ⟨rfl, hU3⟩
  obtain ⟨hc3, hf3, _⟩ := hU3.facts
  have hz3 : w.heap.size < w3.heap.size := by have := hU3.size; (try simp only [World.size_alloc] at this); omega
  go_wp2_with fail
  refine (HZ.out _).mono ?_; rintro e w4 ⟨rfl, hU4⟩
  go_wp2
  go_ret
  exact ⟨ret_bool rfl, (by repeat (first | exact Up.refl _ | assumption | refine Up.drew ?_ | refine Up.alloc ?_ _ | refine Up.trans ?_ (by assumption)))⟩

theorem rate (R K M : Int) (R0 : 0 ≤ R) (K0 : 0 ≤ K) (M0 : 0 ≤ M) (M1 : M < (R + 1) * 3072) :
    vCount R R ((0 + (K * ((R + 1) * 3072) + M)) / 3072) = R - M / 3072 ∧ vRound R R ((0 + (K * ((R + 1) * 3072) + M)) / 3072) = K ∧ (0 + (K * ((R + 1) * 3072) + M)) % 3072 = M % 3072 := by
  have e : K * ((R + 1) * 3072) = K * (R + 1) * 3072 := by rw [Int.mul_assoc]
  rw [e]
  obtain ⟨X, hX⟩ : ∃ x, K * (R + 1) = x := ⟨_, rfl⟩
  rw [hX]
  have hq : (0 + (X * 3072 + M)) / 3072 = X + M / 3072 := by omega
  have hm : (0 + (X * 3072 + M)) % 3072 = M % 3072 := by omega
  have hq1 : M / 3072 ≤ R := by omega
  have hq0 : 0 ≤ M / 3072 := by omega
  rw [hq, hm]
  obtain ⟨q, hqq⟩ : ∃ x, M / 3072 = x := ⟨_, rfl⟩
  rw [hqq] at hq1 hq0 ⊢
  refine ⟨?_, ?_, rfl⟩
  · unfold vCount
    by_cases hK : K = 0
    · subst hK
      rw [Int.zero_mul] at hX
      rw [if_pos (by omega)]; omega
    · have hX1 : R + 1 ≤ X := by
        rw [← hX]
        have := Int.mul_le_mul_of_nonneg_right (show 1 ≤ K by omega) (show 0 ≤ R + 1 by omega)
        rwa [Int.one_mul] at this
      rw [if_neg (by omega)]
      have : (X + q - (R + 1)) = q + (R + 1) * (K - 1) := by rw [Int.mul_sub, Int.mul_one, Int.mul_comm (R + 1) K, hX]; omega
      rw [this, Int.add_mul_emod_self_left, Int.emod_eq_of_lt hq0 (by omega)]
  · unfold vRound
    by_cases hK : K = 0
    · subst hK
      rw [Int.zero_mul] at hX
      rw [if_pos (by omega)]
    · have hX1 : R + 1 ≤ X := by
        rw [← hX]
        have := Int.mul_le_mul_of_nonneg_right (show 1 ≤ K by omega) (show 0 ≤ R + 1 by omega)
        rwa [Int.one_mul] at this
      rw [if_neg (by omega)]
      have : (X + q - (R + 1)) = q + (R + 1) * (K - 1) := by rw [Int.mul_sub, Int.mul_one, Int.mul_comm (R + 1) K, hX]; omega
      rw [this, Int.add_mul_ediv_left _ _ (by omega), Int.ediv_eq_zero_of_lt hq0 (by omega)]; omega

set_option maxHeartbeats 2000000 in
set_option maxRecDepth 100000 in
theorem walk_timerRate (r : Int) (_hr : -9223372036854775808 ≤ r ∧ r ≤ 9223372036854775807) (k : Int) (_hk : -9223372036854775808 ≤ k ∧ k ≤ 9223372036854775807) (m : Int) (_hm : -9223372036854775808 ≤ m ∧ m ≤ 9223372036854775807) (w : World) :
    Calls Try.prog 5 #[.int .i64 r, .int .i64 k, .int .i64 m] w fun e w' => e = .returned (.bool true) ∧ Below w.heap.size w w' := by
  obtain ⟨R, hR⟩ : ∃ x, r % 128 = x := ⟨_, rfl⟩
  obtain ⟨K, hK⟩ : ∃ x, k % 1048576 = x := ⟨_, rfl⟩
  have R0 : 0 ≤ R := by omega
  have R1 : R ≤ 127 := by omega
  have K0 : 0 ≤ K := by omega
  have K1 : K ≤ 1048575 := by omega
  obtain ⟨D, hD⟩ : ∃ x, (R + 1) * 3072 = x := ⟨_, rfl⟩
  have D0 : 3072 ≤ D := by omega
  have D1 : D ≤ 393216 := by omega
  have hmm := BM.tmod_cases m D (by omega)
  have m0 : 0 ≤ m.tmod D + D := by omega
  have m1 : m.tmod D + D ≤ 800000 := by omega
  obtain ⟨M, hM⟩ : ∃ x, (m.tmod D + D) % D = x := ⟨_, rfl⟩
  have M0 : 0 ≤ M := by rw [← hM]; exact Int.emod_nonneg _ (by omega)
  have M1 : M < D := by rw [← hM]; exact Int.emod_lt_of_pos _ (by omega)
  obtain ⟨E, hE⟩ : ∃ x, K * D = x := ⟨_, rfl⟩
  have E0 : 0 ≤ E := by rw [← hE]; exact Int.mul_nonneg K0 (by omega)
  have E1 : E ≤ 412316467200 := by
    rw [← hE]
    exact Int.le_trans (Int.mul_le_mul K1 D1 (by omega) (by omega)) (by omega)
  have rt := rate R K M R0 K0 M0 (by omega)
  rw [hD, hE] at rt
  have HA' := fun w => adv_ge0 R R 0 (E + M) R0 R1 R0 R1 (by omega) (by omega) (by omega) (by omega) w
  rw [rt.1, rt.2.1, rt.2.2] at HA'
  have HA := Lib.hid HA'
  clear HA' rt hmm
  have W1' := fun w => write_any 0 0 false 0 0 R w
  rw [show wR 0 0 R = R by unfold wR; rw [if_pos rfl]; omega, show wC 0 0 false 0 R = 0 by unfold wC; rw [if_neg (by omega)], show wOn false 0 R = false by unfold wOn; rw [if_neg (by omega)], show wP false 0 0 R = 0 by unfold wP; split <;> rfl] at W1'
  have W1 := Lib.hid W1'
  have hb1 : BM.vBit 1 0 = 1 := by decide +kernel
  have W2' := fun w => write_any R 0 false 0 1 1 w
  rw [show wR R 1 1 = R by unfold wR; rw [if_neg (by omega)], show wC R 0 false 1 1 = R by unfold wC; rw [if_pos ⟨rfl, hb1, rfl⟩], show wOn false 1 1 = true by unfold wOn; rw [if_pos rfl, decide_eq_true hb1], show wP false 0 1 1 = 0 by unfold wP; split <;> rfl] at W2'
  have W2 := Lib.hid W2'
  clear W1' W2' hb1
  have dn : (D == 0) = false := beq_eq_false_iff_ne.2 (by omega)
  have dn2 : (D != 0) = true := bne_iff_ne.2 (by omega)
  have q0 : 0 ≤ M / 3072 := by omega
  have q1 : M / 3072 ≤ 128 := by omega
  by_cases hK0 : K = 0
  · have hK0' : (K == 0) = true := beq_iff_eq.2 hK0
    by_cases hM0 : M = 0
    · have hM0' : (M == 0) = true := beq_iff_eq.2 hM0
      have f1 : (R - M / 3072 == R) = true := by rw [hM0, beq_iff_eq]; omega
      have f2 : (M % 3072 == 0) = true := by rw [hM0]; rfl
      clear hK0 hM0
      go_enter Try.func5, Try.ntmps5
      go_wp2_with fail
      refine (W1.out _).mono ?_; rintro e w1 ⟨rfl, hU1⟩
      go_wp2_with fail
      refine (W2.out _).mono ?_; rintro e w2 ⟨rfl, hU2⟩
      go_wp2_with fail
      refine (HA.out _).mono ?_; rintro e w3 ⟨rfl, hU3⟩
      obtain ⟨hc3, hf3, _⟩ := hU3.facts
      have hz3 : w2.heap.size < w3.heap.size := by have := hU3.size; (try simp only [World.size_alloc] at this); omega
      go_wp2
      go_ret
      exact ⟨ret_bool (by first | rfl | simp [*]), (by repeat (first | exact Up.refl _ | assumption | refine Up.drew ?_ | refine Up.alloc ?_ _ | refine Up.trans ?_ (by assumption)))⟩
    · have hM0' : (M == 0) = false := beq_eq_false_iff_ne.2 hM0
      clear hK0 hM0
      go_enter Try.func5, Try.ntmps5
      go_wp2_with fail
      refine (W1.out _).mono ?_; rintro e w1 ⟨rfl, hU1⟩
      go_wp2_with fail
      refine (W2.out _).mono ?_; rintro e w2 ⟨rfl, hU2⟩
      go_wp2_with fail
      refine (HA.out _).mono ?_; rintro e w3 ⟨rfl, hU3⟩
      obtain ⟨hc3, hf3, _⟩ := hU3.facts
      have hz3 : w2.heap.size < w3.heap.size := by have := hU3.size; (try simp only [World.size_alloc] at this); omega
      go_wp2
      go_ret
      exact ⟨ret_bool (by first | rfl | simp [*]), (by repeat (first | exact Up.refl _ | assumption | refine Up.drew ?_ | refine Up.alloc ?_ _ | refine Up.trans ?_ (by assumption)))⟩
  · have hK0' : (K == 0) = false := beq_eq_false_iff_ne.2 hK0
    clear hK0
    go_enter Try.func5, Try.ntmps5
    go_wp2_with fail
    refine (W1.out _).mono ?_; rintro e w1 ⟨rfl, hU1⟩
    go_wp2_with fail
    refine (W2.out _).mono ?_; rintro e w2 ⟨rfl, hU2⟩
    go_wp2_with fail
    refine (HA.out _).mono ?_; rintro e w3 ⟨rfl, hU3⟩
    obtain ⟨hc3, hf3, _⟩ := hU3.facts
    have hz3 : w2.heap.size < w3.heap.size := by have := hU3.size; (try simp only [World.size_alloc] at this); omega
    go_wp2
    go_ret
    exact ⟨ret_bool (by first | rfl | simp [*]), (by repeat (first | exact Up.refl _ | assumption | refine Up.drew ?_ | refine Up.alloc ?_ _ | refine Up.trans ?_ (by assumption)))⟩
end Go.Proofs.Ytmgafhipaeicaaa
