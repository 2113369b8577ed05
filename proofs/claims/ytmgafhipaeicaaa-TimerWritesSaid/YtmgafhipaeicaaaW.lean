/- The walks of the laws TimerParts, TimerNext and TimerRate: each returns true. -/
import Derived.Test.YtmgafhipaeicaaaB
import Derived.Test.YtmgafhipaeicaaaOP
namespace Go.Proofs.Ytmgafhipaeicaaa
open Go.RowKit
attribute [local go_sem] BM.and127 BM.and1048575 BM.and549755813887

/-- Ticks on, from none. -/
theorem adv_ge0 (r c p t : Int) (h1 : 0 ≤ r) (h2 : r ≤ 127) (h3 : 0 ≤ c) (h4 : c ≤ 127) (h5 : 0 ≤ p) (h6 : p ≤ 3071) (h7 : 0 ≤ t) (h8 : t ≤ 1099511627776) (w : World) :
    Calls Try.prog 8 #[.agg #[.int .i64 r, .int .i64 c, .bool true, .int .i64 p], .int .i64 t] w
      fun e w' => e = .returned (.tuple #[.agg #[.int .i64 r, .int .i64 (vCount r c ((p + t) / 3072)), .bool true, .int .i64 ((p + t) % 3072)], .int .i64 (vRound c r ((p + t) / 3072))]) ∧ Up w w' := by
  by_cases h : t = 0
  · subst h
    have e1 : vCount r c ((p + 0) / 3072) = c := by unfold vCount; rw [if_pos (by omega)]; omega
    have e2 : vRound c r ((p + 0) / 3072) = 0 := by unfold vRound; rw [if_pos (by omega)]
    have e3 : (p + 0) % 3072 = p := by omega
    rw [e1, e2, e3]
    exact adv_few r c p 0 (valid_true h1 h2 h3 h4 h5 h6 rfl) (by omega) w
  · exact adv_yes r c p t h1 h2 h3 h4 h5 h6 (by omega) h8 w

theorem pre_rng (p : Int) : 0 ≤ p.tmod 3072 + 3072 ∧ p.tmod 3072 + 3072 ≤ 6144 := by
  have := BM.tmod_cases p 3072 (by omega)
  omega

set_option maxHeartbeats 2000000 in
set_option maxRecDepth 100000 in
theorem walk_timerParts (c0 : List Value) (f0 : OP.FitsAll [true, true, false, true] c0) (a : Int) (_ha : -9223372036854775808 ≤ a ∧ a ≤ 9223372036854775807) (b : Int) (_hb : -9223372036854775808 ≤ b ∧ b ≤ 9223372036854775807) (w : World) :
    Calls Try.prog 3 #[.agg ⟨c0⟩, .int .i64 a, .int .i64 b] w fun e w' => e = .returned (.bool true) ∧ Below w.heap.size w w' := by
  obtain ⟨r, r0, rfl, _, f1⟩ := OP.cons_int f0
  obtain ⟨c, r1, rfl, _, f2⟩ := OP.cons_int f1
  obtain ⟨on, r2, rfl, f3⟩ := OP.cons_bool f2
  obtain ⟨p, r3, rfl, _, f4⟩ := OP.cons_int f3
  obtain rfl := OP.none_left f4
  clear f0 f1 f2 f3 f4
  obtain ⟨p0, p1⟩ := pre_rng p
  obtain ⟨R, hR⟩ : ∃ x, r % 128 = x := ⟨_, rfl⟩
  obtain ⟨C, hC⟩ : ∃ x, c % 128 = x := ⟨_, rfl⟩
  obtain ⟨P, hP⟩ : ∃ x, (p.tmod 3072 + 3072) % 3072 = x := ⟨_, rfl⟩
  obtain ⟨A, hA⟩ : ∃ x, a % 549755813888 = x := ⟨_, rfl⟩
  obtain ⟨B, hB⟩ : ∃ x, b % 549755813888 = x := ⟨_, rfl⟩
  have R0 : 0 ≤ R := by omega
  have R1 : R ≤ 127 := by omega
  have C0 : 0 ≤ C := by omega
  have C1 : C ≤ 127 := by omega
  have P0 : 0 ≤ P := by omega
  have P1 : P ≤ 3071 := by omega
  have A0 : 0 ≤ A := by omega
  have A1 : A ≤ 549755813887 := by omega
  have B0 : 0 ≤ B := by omega
  have B1 : B ≤ 549755813887 := by omega
  have cr := count_rng R C ((P + A) / 3072) R0 C0 C1 R1 (by omega)
  obtain ⟨tp1, tp2⟩ := two_parts R C R0 C0 C1 R1 ((P + A) / 3072) (by omega) (((P + A) % 3072 + B) / 3072).toNat
  have hnat : (((((P + A) % 3072 + B) / 3072).toNat : Nat) : Int) = ((P + A) % 3072 + B) / 3072 := by omega
  have hsum : (P + A) / 3072 + ((P + A) % 3072 + B) / 3072 = (P + (A + B)) / 3072 := by omega
  have hmod : ((P + A) % 3072 + B) % 3072 = (P + (A + B)) % 3072 := by omega
  rw [hnat, hsum] at tp1 tp2
  have H1 := Lib.hid (fun w => adv_ge0 R C P A R0 R1 C0 C1 P0 P1 A0 (by omega) w)
  have H2' := fun w => adv_ge0 R (vCount R C ((P + A) / 3072)) ((P + A) % 3072) B R0 R1 cr.1 cr.2.1 (by omega) (by omega) B0 (by omega) w
  have H3' := fun w => adv_ge0 R C P (A + B) R0 R1 C0 C1 P0 P1 (by omega) (by omega) w
  have k2 := count_rng R (vCount R C ((P + A) / 3072)) (((P + A) % 3072 + B) / 3072) R0 cr.1 cr.2.1 R1 (by omega)
  rw [tp1] at k2
  rw [tp1, hmod] at H2'
  rw [← tp2] at H3'
  have H2 := Lib.hid H2'
  have H3 := Lib.hid H3'
  clear H2' H3' tp1 tp2 hnat hsum hmod
  have n0 : 0 ≤ vRound C R ((P + A) / 3072) := cr.2.2.1
  have n1 : vRound C R ((P + A) / 3072) ≤ 549755813887 := by omega
  have m0 : 0 ≤ vRound (vCount R C ((P + A) / 3072)) R (((P + A) % 3072 + B) / 3072) := k2.2.2.1
  have m1 : vRound (vCount R C ((P + A) / 3072)) R (((P + A) % 3072 + B) / 3072) ≤ 549755813887 := by omega
  have hv := valid_true (r := R) (c := vCount R C ((P + (A + B)) / 3072)) (on := true) (p := (P + (A + B)) % 3072) R0 R1 k2.1 k2.2.1 (by omega) (by omega) rfl
  have HO := Lib.hid (fun t w => adv_off 5 0 0 t (by decide +kernel) w)
  clear cr k2
  go_enter Try.func3, Try.ntmps3
  go_wp2_with fail
  refine (H1.out _).mono ?_; rintro e w1 ⟨rfl, hU1⟩
  obtain ⟨hc1, hf1, _⟩ := hU1.facts
  have hz1 : w.heap.size < w1.heap.size := by have := hU1.size; simp at this; omega
  go_wp2_with fail
  refine (H2.out _).mono ?_; rintro e w2 ⟨rfl, hU2⟩
  obtain ⟨hc2, hf2, _⟩ := hU2.facts
  have hz2 : w1.heap.size < w2.heap.size := by have := hU2.size; simp at this; omega
  have hz3 : w.heap.size < w2.heap.size := by omega
  go_wp2_with fail
  refine (H3.out _).mono ?_; rintro e w3 ⟨rfl, hU3⟩
  obtain ⟨hc3, hf3, _⟩ := hU3.facts
  have hz4 : w2.heap.size < w3.heap.size := by have := hU3.size; simp at this; omega
  have hz5 : w1.heap.size < w3.heap.size := by omega
  have hz6 : w.heap.size < w3.heap.size := by omega
  go_wp2_with fail
  refine (HO.out _ _).mono ?_; rintro e w4 ⟨rfl, hU4⟩
  obtain ⟨hc4, hf4, _⟩ := hU4.facts
  have hz7 : w3.heap.size < w4.heap.size := by have := hU4.size; simp at this; omega
  have hz8 : w2.heap.size < w4.heap.size := by omega
  have hz9 : w1.heap.size < w4.heap.size := by omega
  have hz10 : w.heap.size < w4.heap.size := by omega
  have hz11 : w3.heap.size < w4.heap.size + 1 := by omega
  have hz12 : w3.heap.size < w4.heap.size + 1 + 1 := by omega
  go_wp2_with fail
  refine (valid_any _ _ _ _ _).mono ?_; rintro e w5 ⟨rfl, rfl⟩
  go_wp2
  go_ret
  exact ⟨ret_bool rfl, (by repeat (first | exact Up.refl _ | assumption | refine Up.drew ?_ | refine Up.alloc ?_ _ | refine Up.trans ?_ (by assumption)))⟩
end Go.Proofs.Ytmgafhipaeicaaa
