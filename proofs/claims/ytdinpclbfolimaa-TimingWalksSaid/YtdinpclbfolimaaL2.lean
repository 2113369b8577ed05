/- The walk of the law TimingWalks: it returns true. -/
import Derived.Test.YtdinpclbfolimaaL
namespace Go.Proofs.Ytdinpclbfolimaa
open Go.RowKit

set_option maxHeartbeats 4000000 in
set_option maxRecDepth 100000 in
theorem walk_timingWalks (c0 : List Value) (f0 : OP.FitsAll [true, true, true, true, true, true] c0) (w : World) :
    Calls Try.prog 7 #[.agg ⟨c0⟩] w fun e w' => e = .returned (.bool true) ∧ Below w.heap.size w w' := by
  obtain ⟨d, r0, rfl, hd, f1⟩ := OP.cons_int f0
  obtain ⟨l, r1, rfl, hl', f2⟩ := OP.cons_int f1
  obtain ⟨h, r2, rfl, hh, f3⟩ := OP.cons_int f2
  obtain ⟨vp, r3, rfl, hp, f4⟩ := OP.cons_int f3
  obtain ⟨vd, r4, rfl, hvd, f5⟩ := OP.cons_int f4
  obtain ⟨vc, r5, rfl, hc, f6⟩ := OP.cons_int f5
  obtain rfl := OP.none_left f6
  clear f0 f1 f2 f3 f4 f5 f6
  obtain ⟨g1, g2, g3, g4, g5, g6, g7, g8, g9, g10⟩ := geo_rng d l h vp vd
  clear g1 g2 g3 g9 g10
  have hT0 : 0 ≤ vTop l vp := by omega
  have hT1 : vTop l vp ≤ 263 := by omega
  have SH := Lib.hid (fun n hn w => shown_any (vWidth d h) (vTop l vp) (vBottom l vp vd) (vBlank l vp vd) (vLines l) n hT0 hT1 hn w)
  have FR := Lib.hid (fun w => frame_any (vWidth d h) (vTop l vp) (vBottom l vp vd) (vBlank l vp vd) (vLines l) (by omega) (by omega) w)
  have LN : ∀ j : Int, 0 ≤ j → j ≤ 300 → ∀ w, Calls Try.prog 9 #[.int .i64 (1365 * j)] w fun e w' => e = .returned (.tuple #[.int .i64 j, .int .i64 0]) ∧ w = w' := fun j h0 h1 w => by
    have := line_any (1365 * j) (by omega) w
    rw [show max (1365 * j) 0 = 1365 * j by omega, show 1365 * j / 1365 = j by omega, show 1365 * j % 1365 = 0 by omega] at this; exact this
  have NX : ∀ j : Int, 0 ≤ j → j ≤ 300 → ∀ w, Calls Try.prog 8 #[.int .i64 (1365 * j)] w fun e w' => e = .returned (.int .i64 1365) ∧ w = w' := fun j h0 h1 w => by
    have := next_any (1365 * j) (by omega) w
    rw [show 1365 - max (1365 * j) 0 % 1365 = 1365 by omega] at this; exact this
  have HLN := Lib.hid LN
  have HNX := Lib.hid NX
  clear LN NX
  go_enter Try.func7, Try.ntmps7
  go_wp2_with fail
  refine (of_any _ _ _ _ _ _ _).mono ?_; rintro e w1 ⟨rfl, hB1⟩
  obtain ⟨hc1, hf1, _⟩ := hB1.facts
  have hz1 : w.heap.size < w1.heap.size := by have := hB1.size; simp only [World.size_alloc] at this; omega
  go_wp2_with fail
  have hU0 : Up w (w1.alloc (.cells #[.int .i64 (vWidth d h), .int .i64 (vTop l vp), .int .i64 (vBottom l vp vd), .int .i64 (vBlank l vp vd), .int .i64 (vLines l)] 29)) := (((Up.refl w).alloc _).trans hB1).alloc _
  go_loopw [4, 5, 6] (fun t i n wr => ∃ j : Int, 0 ≤ j ∧ j ≤ vLines l ∧ i = .int .i64 j ∧ t = .int .i64 (1365 * j) ∧ n = .int .i64 (vSeen (vTop l vp) (vBottom l vp vd) j) ∧ Up (w1.alloc (.cells #[.int .i64 (vWidth d h), .int .i64 (vTop l vp), .int .i64 (vBottom l vp vd), .int .i64 (vBlank l vp vd), .int .i64 (vLines l)] 29)) wr) (fun _ i _ _ => (300 - intOf i).toNat)
  case atStart => exact ⟨0, by omega, by omega, rfl, rfl, i64_num (by unfold vSeen; omega), Up.refl _⟩
  case round =>
    obtain ⟨j, hj0, hj1, rfl, rfl, rfl, hU⟩ := hrel
    have k0 : wr.cell? ⟨w1.heap.size, 0, none⟩ = some (.int .i64 (vWidth d h)) := by rw [hU.cell (by simp)]; simp
    have k1 : wr.cell? ⟨w1.heap.size, 1, none⟩ = some (.int .i64 (vTop l vp)) := by rw [hU.cell (by simp)]; simp
    have k2 : wr.cell? ⟨w1.heap.size, 2, none⟩ = some (.int .i64 (vBottom l vp vd)) := by rw [hU.cell (by simp)]; simp
    have k3 : wr.cell? ⟨w1.heap.size, 3, none⟩ = some (.int .i64 (vBlank l vp vd)) := by rw [hU.cell (by simp)]; simp
    have k4 : wr.cell? ⟨w1.heap.size, 4, none⟩ = some (.int .i64 (vLines l)) := by rw [hU.cell (by simp)]; simp
    have hS := seen_step (vTop l vp) (vBottom l vp vd) j g7
    have s0 : 0 ≤ vSeen (vTop l vp) (vBottom l vp vd) j := by unfold vSeen; omega
    have s1 : vSeen (vTop l vp) (vBottom l vp vd) j ≤ 263 := by unfold vSeen; omega
    have hwr : w1.heap.size < wr.heap.size := by have := hU.size; simp at this; omega
    by_cases hlt : j < vLines l
    · have t1 : 1365 * j < vLines l * 1365 := by omega
      have SHj := Lib.hid (SH.out j (by omega))
      have LNj := Lib.hid (HLN.out j hj0 (by omega))
      have NXj := Lib.hid (HNX.out j hj0 (by omega))
      have t2 : 1365 * j + 1365 = 1365 * (j + 1) := by omega
      have T2 := Lib.hid t2
      clear t2
      go_wp2_with fail
      refine (FR.out _).mono ?_; rintro e w3 ⟨rfl, hB3⟩
      have hz3 := hB3.size
      have y30 : w3.cell? ⟨w1.heap.size, 0, none⟩ = some (.int .i64 (vWidth d h)) := by rw [hB3.cell (by omega)]; exact k0
      have y31 : w3.cell? ⟨w1.heap.size, 1, none⟩ = some (.int .i64 (vTop l vp)) := by rw [hB3.cell (by omega)]; exact k1
      have y32 : w3.cell? ⟨w1.heap.size, 2, none⟩ = some (.int .i64 (vBottom l vp vd)) := by rw [hB3.cell (by omega)]; exact k2
      have y33 : w3.cell? ⟨w1.heap.size, 3, none⟩ = some (.int .i64 (vBlank l vp vd)) := by rw [hB3.cell (by omega)]; exact k3
      have y34 : w3.cell? ⟨w1.heap.size, 4, none⟩ = some (.int .i64 (vLines l)) := by rw [hB3.cell (by omega)]; exact k4
      go_wp2_with fail
      refine (LNj.out _).mono ?_; rintro e w' ⟨rfl, rfl⟩
      go_wp2_with fail
      refine (SHj.out _).mono ?_; rintro e w4 ⟨rfl, hB4⟩
      by_cases hk : 0 ≤ vShown (vTop l vp) (vBottom l vp vd) j
      · have E := Lib.hid (hS.2 hk).2.2.2
        clear hS
        go_wp2_with (go_at_call 8; refine (NXj.out _).mono ?_; rintro e w' ⟨rfl, rfl⟩)
        go_roundw
        case rel => exact ⟨j + 1, by omega, by omega, rfl, i64_num T2.out, i64_num E.out.symm, (hU.trans hB3).trans hB4⟩
        case measure => simp [intOf]; omega
      · have E := Lib.hid (hS.1 (by omega))
        clear hS
        go_wp2_with (go_at_call 8; refine (NXj.out _).mono ?_; rintro e w' ⟨rfl, rfl⟩)
        go_roundw
        case rel => exact ⟨j + 1, by omega, by omega, rfl, i64_num T2.out, i64_num E.out.symm, (hU.trans hB3).trans hB4⟩
        case measure => simp [intOf]; omega
    · have hjl : j = vLines l := by omega
      clear hS
      have t1 : ¬ 1365 * j < vLines l * 1365 := by omega
      have b1 : (1365 * j == vLines l * 1365) = true := by rw [beq_iff_eq]; omega
      have b2 : (j == vLines l) = true := by rw [beq_iff_eq]; omega
      have b3 : (vSeen (vTop l vp) (vBottom l vp vd) j == vBottom l vp vd - vTop l vp) = true := by rw [beq_iff_eq]; unfold vSeen; omega
      have b4 : 262 ≤ j := by omega
      clear hjl
      go_wp2_with fail
      refine (FR.out _).mono ?_; rintro e w3 ⟨rfl, hB3⟩
      have hz3 := hB3.size
      have y30 : w3.cell? ⟨w1.heap.size, 0, none⟩ = some (.int .i64 (vWidth d h)) := by rw [hB3.cell (by omega)]; exact k0
      have y31 : w3.cell? ⟨w1.heap.size, 1, none⟩ = some (.int .i64 (vTop l vp)) := by rw [hB3.cell (by omega)]; exact k1
      have y32 : w3.cell? ⟨w1.heap.size, 2, none⟩ = some (.int .i64 (vBottom l vp vd)) := by rw [hB3.cell (by omega)]; exact k2
      have y33 : w3.cell? ⟨w1.heap.size, 3, none⟩ = some (.int .i64 (vBlank l vp vd)) := by rw [hB3.cell (by omega)]; exact k3
      have y34 : w3.cell? ⟨w1.heap.size, 4, none⟩ = some (.int .i64 (vLines l)) := by rw [hB3.cell (by omega)]; exact k4
      go_wp2_with fail
      refine (FR.out _).mono ?_; rintro e w4 ⟨rfl, hB4⟩
      have hz4 := hB4.size
      have y40 : w4.cell? ⟨w1.heap.size, 0, none⟩ = some (.int .i64 (vWidth d h)) := by rw [hB4.cell (by omega)]; exact y30
      have y41 : w4.cell? ⟨w1.heap.size, 1, none⟩ = some (.int .i64 (vTop l vp)) := by rw [hB4.cell (by omega)]; exact y31
      have y42 : w4.cell? ⟨w1.heap.size, 2, none⟩ = some (.int .i64 (vBottom l vp vd)) := by rw [hB4.cell (by omega)]; exact y32
      have y43 : w4.cell? ⟨w1.heap.size, 3, none⟩ = some (.int .i64 (vBlank l vp vd)) := by rw [hB4.cell (by omega)]; exact y33
      have y44 : w4.cell? ⟨w1.heap.size, 4, none⟩ = some (.int .i64 (vLines l)) := by rw [hB4.cell (by omega)]; exact y34
      go_wp2
      go_ret
      exact ⟨ret_bool rfl, ((hU0.trans hU).trans hB3).trans hB4⟩
end Go.Proofs.Ytdinpclbfolimaa
