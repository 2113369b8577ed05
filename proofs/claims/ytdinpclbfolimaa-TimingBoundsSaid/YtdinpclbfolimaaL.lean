/- The walks of the laws TimingBounds and TimingWalks: each returns true. -/
import Derived.Test.YtdinpclbfolimaaB
import Derived.Test.YtdinpclbfolimaaOP
import Derived.Test.YtdinpclbfolimaaW
import Derived.Deep.RegionHeld3
namespace Go.Proofs.Ytdinpclbfolimaa
open Go.RowKit

/-- How many lines are shown ahead of a line. -/
def vSeen (t b n : Int) : Int := max 0 (min n b - t)
theorem seen_step (t b n : Int) (htb : t ≤ b) : (vShown t b n < 0 → vSeen t b (n + 1) = vSeen t b n) ∧ (0 ≤ vShown t b n → vShown t b n = vSeen t b n ∧ n < b ∧ t ≤ n ∧ vSeen t b (n + 1) = vSeen t b n + 1) := by
  unfold vShown vSeen
  split <;> omega

set_option maxHeartbeats 4000000 in
set_option maxRecDepth 100000 in
theorem walk_timingBounds (c0 : List Value) (f0 : OP.FitsAll [true, true, true, true, true, true] c0) (w : World) :
    Calls Try.prog 5 #[.agg ⟨c0⟩] w fun e w' => e = .returned (.bool true) ∧ Below w.heap.size w w' := by
  obtain ⟨d, r0, rfl, hd, f1⟩ := OP.cons_int f0
  obtain ⟨l, r1, rfl, hl', f2⟩ := OP.cons_int f1
  obtain ⟨h, r2, rfl, hh, f3⟩ := OP.cons_int f2
  obtain ⟨vp, r3, rfl, hp, f4⟩ := OP.cons_int f3
  obtain ⟨vd, r4, rfl, hvd, f5⟩ := OP.cons_int f4
  obtain ⟨vc, r5, rfl, hc, f6⟩ := OP.cons_int f5
  obtain rfl := OP.none_left f6
  clear f0 f1 f2 f3 f4 f5 f6
  obtain ⟨g1, g2, g3, g4, g5, g6, g7, g8, g9, g10⟩ := geo_rng d l h vp vd
  have g0 : 0 ≤ vWidth d h * min (max d 2) 4 := Int.mul_nonneg (by omega) (by omega)
  have d0 : decide (vWidth d h < 8) = false := by rw [decide_eq_false_iff_not]; omega
  have d1 : decide (512 < vWidth d h) = false := by rw [decide_eq_false_iff_not]; omega
  have d2 : decide (1365 < vWidth d h * min (max d 2) 4) = false := by rw [decide_eq_false_iff_not]; omega
  have d3 : decide (vLines l < 262) = false := by rw [decide_eq_false_iff_not]; omega
  have d4 : decide (263 < vLines l) = false := by rw [decide_eq_false_iff_not]; omega
  have d5 : decide (vTop l vp < 3) = false := by rw [decide_eq_false_iff_not]; omega
  have d6 : decide (vBottom l vp vd < vTop l vp) = false := by rw [decide_eq_false_iff_not]; omega
  have d7 : decide (vLines l < vBottom l vp vd) = false := by rw [decide_eq_false_iff_not]; omega
  have d8 : decide (vBlank l vp vd < 0) = false := by rw [decide_eq_false_iff_not]; omega
  have d9 : decide (vLines l ≤ vBlank l vp vd) = false := by rw [decide_eq_false_iff_not]; omega
  have hT0 : 0 ≤ vTop l vp := by omega
  have hT1 : vTop l vp ≤ 263 := by omega
  have SH := Lib.hid (fun n hn w => shown_any (vWidth d h) (vTop l vp) (vBottom l vp vd) (vBlank l vp vd) (vLines l) n hT0 hT1 hn w)
  have FR := Lib.hid (fun w => frame_any (vWidth d h) (vTop l vp) (vBottom l vp vd) (vBlank l vp vd) (vLines l) (by omega) (by omega) w)
  go_enter Try.func5, Try.ntmps5
  go_wp2_with fail
  refine (of_any _ _ _ _ _ _ _).mono ?_; rintro e w1 ⟨rfl, hB1⟩
  obtain ⟨hc1, hf1, _⟩ := hB1.facts
  have hz1 : w.heap.size < w1.heap.size := by have := hB1.size; simp only [World.size_alloc] at this; omega
  go_wp2_with fail
  have hU0 : Up w (w1.alloc (.cells #[.int .i64 (vWidth d h), .int .i64 (vTop l vp), .int .i64 (vBottom l vp vd), .int .i64 (vBlank l vp vd), .int .i64 (vLines l)] 29)) := (((Up.refl w).alloc _).trans hB1).alloc _
  go_loopw [5, 6] (fun n i wr => ∃ j : Int, -1 ≤ j ∧ j ≤ 265 ∧ i = .int .i64 j ∧ n = .int .i64 (vSeen (vTop l vp) (vBottom l vp vd) j) ∧ Up (w1.alloc (.cells #[.int .i64 (vWidth d h), .int .i64 (vTop l vp), .int .i64 (vBottom l vp vd), .int .i64 (vBlank l vp vd), .int .i64 (vLines l)] 29)) wr) (fun _ i _ => (265 - intOf i).toNat)
  case atStart => exact ⟨-1, by omega, by omega, rfl, i64_num (by unfold vSeen; omega), Up.refl _⟩
  case round =>
    obtain ⟨j, hj0, hj1, rfl, rfl, hU⟩ := hrel
    have k0 : wr.cell? ⟨w1.heap.size, 0, none⟩ = some (.int .i64 (vWidth d h)) := by rw [hU.cell (by simp)]; simp
    have k1 : wr.cell? ⟨w1.heap.size, 1, none⟩ = some (.int .i64 (vTop l vp)) := by rw [hU.cell (by simp)]; simp
    have k2 : wr.cell? ⟨w1.heap.size, 2, none⟩ = some (.int .i64 (vBottom l vp vd)) := by rw [hU.cell (by simp)]; simp
    have k3 : wr.cell? ⟨w1.heap.size, 3, none⟩ = some (.int .i64 (vBlank l vp vd)) := by rw [hU.cell (by simp)]; simp
    have k4 : wr.cell? ⟨w1.heap.size, 4, none⟩ = some (.int .i64 (vLines l)) := by rw [hU.cell (by simp)]; simp
    have hS := seen_step (vTop l vp) (vBottom l vp vd) j g7
    have s0 : 0 ≤ vSeen (vTop l vp) (vBottom l vp vd) j := by unfold vSeen; omega
    have s1 : vSeen (vTop l vp) (vBottom l vp vd) j ≤ 263 := by unfold vSeen; omega
    have hwr : w1.heap.size < wr.heap.size := by have := hU.size; simp at this; omega
    by_cases hlt : j ≤ 264
    · by_cases hk : 0 ≤ vShown (vTop l vp) (vBottom l vp vd) j
      · obtain ⟨e1, e2, e3, e4⟩ := hS.2 hk
        have b1 : (vShown (vTop l vp) (vBottom l vp vd) j != vSeen (vTop l vp) (vBottom l vp vd) j) = false := by rw [e1]; simp
        have b2 : decide (vLines l ≤ j) = false := by rw [decide_eq_false_iff_not]; omega
        have E := Lib.hid e4
        clear hS e1 e4
        go_wp2_with fail
        refine (SH.out _ (by omega) _).mono ?_; rintro e w3 ⟨rfl, hB3⟩
        obtain ⟨hc3, hf3, _⟩ := hB3.facts
        go_wp2
        go_roundw
        case rel => exact ⟨j + 1, by omega, by omega, rfl, i64_num E.out.symm, hU.trans hB3⟩
        case measure => simp [intOf]; omega
      · have hk' : vShown (vTop l vp) (vBottom l vp vd) j < 0 := by omega
        have E := Lib.hid (hS.1 hk')
        clear hS
        go_wp2_with fail
        refine (SH.out _ (by omega) _).mono ?_; rintro e w3 ⟨rfl, hB3⟩
        obtain ⟨hc3, hf3, _⟩ := hB3.facts
        go_wp2
        go_roundw
        case rel => exact ⟨j + 1, by omega, by omega, rfl, i64_num E.out.symm, hU.trans hB3⟩
        case measure => simp [intOf]; omega
    · obtain rfl : j = 265 := by omega
      clear hS
      have b1 : (vSeen (vTop l vp) (vBottom l vp vd) 265 == vBottom l vp vd - vTop l vp) = true := by rw [beq_iff_eq]; unfold vSeen; omega
      have hUw : Up w wr := hU0.trans hU
      go_wp2
      have wr1 : IntKind.i64.wrap (vBottom l vp vd - vTop l vp) = vBottom l vp vd - vTop l vp := IntWalk.i64_in _ (by omega)
      have wr2 : IntKind.i64.wrap (vLines l * 1365) = vLines l * 1365 := IntWalk.i64_in _ (by omega)
      go_region_held3 (fun w' => Up w w' ∧ w1.heap.size < w'.heap.size ∧ w'.cell? ⟨w1.heap.size, 0, none⟩ = some (.int .i64 (vWidth d h)) ∧ w'.cell? ⟨w1.heap.size, 1, none⟩ = some (.int .i64 (vTop l vp)) ∧ w'.cell? ⟨w1.heap.size, 2, none⟩ = some (.int .i64 (vBottom l vp vd)) ∧ w'.cell? ⟨w1.heap.size, 3, none⟩ = some (.int .i64 (vBlank l vp vd)) ∧ w'.cell? ⟨w1.heap.size, 4, none⟩ = some (.int .i64 (vLines l))) (go_keep) (first | (go_at_call 12; refine (FR.out _).mono ?_; rintro e w3 ⟨rfl, hB3⟩; have hz3 := hB3.size; have y0 : w3.cell? ⟨w1.heap.size, 0, none⟩ = some (.int .i64 (vWidth d h)) := (by rw [hB3.cell (by first | assumption | exact hwr)]; first | assumption | exact k0); have y1 : w3.cell? ⟨w1.heap.size, 1, none⟩ = some (.int .i64 (vTop l vp)) := (by rw [hB3.cell (by first | assumption | exact hwr)]; first | assumption | exact k1); have y2 : w3.cell? ⟨w1.heap.size, 2, none⟩ = some (.int .i64 (vBottom l vp vd)) := (by rw [hB3.cell (by first | assumption | exact hwr)]; first | assumption | exact k2); have y3 : w3.cell? ⟨w1.heap.size, 3, none⟩ = some (.int .i64 (vBlank l vp vd)) := (by rw [hB3.cell (by first | assumption | exact hwr)]; first | assumption | exact k3); have y4 : w3.cell? ⟨w1.heap.size, 4, none⟩ = some (.int .i64 (vLines l)) := (by rw [hB3.cell (by first | assumption | exact hwr)]; first | assumption | exact k4); have hU3 : Up w w3 := (by first | exact Up.trans (by assumption) hB3 | exact Up.trans (Up.drew (hU0.trans hU)) hB3); have hy1 : w1.heap.size < w3.heap.size := (by first | omega | exact Nat.lt_of_lt_of_le hwr hz3)))
      go_wp2
      go_ret
      exact ⟨ret_bool (by first | rfl | exact beq_self_eq_true _ | (rw [IntWalk.i64_in _ (by omega)]; exact beq_self_eq_true _)), by assumption⟩
end Go.Proofs.Ytdinpclbfolimaa
