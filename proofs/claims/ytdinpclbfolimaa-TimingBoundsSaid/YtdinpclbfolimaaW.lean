/- The walks of the laws over timing: each returns true. -/
import Derived.Test.YtdinpclbfolimaaB
import Derived.Test.YtdinpclbfolimaaOP
import Derived.Deep.RegionHeld3
namespace Go.Proofs.Ytdinpclbfolimaa
open Go.RowKit
attribute [local go_sem] BM.and31 BM.and63 BM.and127 BM.and255 BM.and511 BM.and4294967295

theorem geo_rng (d l h vp vd : Int) : 8 ≤ vWidth d h ∧ vWidth d h ≤ 512 ∧ vWidth d h * min (max d 2) 4 ≤ 1365 ∧ 262 ≤ vLines l ∧ vLines l ≤ 263 ∧ 3 ≤ vTop l vp ∧ vTop l vp ≤ vBottom l vp vd ∧ vBottom l vp vd ≤ vLines l ∧ 0 ≤ vBlank l vp vd ∧ vBlank l vp vd < vLines l := by
  have hd : min (max d 2) 4 = 2 ∨ min (max d 2) 4 = 3 ∨ min (max d 2) 4 = 4 := by omega
  unfold vBlank vBottom vTop vLines vWidth
  rcases hd with h | h | h <;> rw [h] <;> omega

theorem walk_timingNext (t : Int) (_ht : -9223372036854775808 ≤ t ∧ t ≤ 9223372036854775807) (w : World) :
    Calls Try.prog 3 #[.int .i64 t] w fun e w' => e = .returned (.bool true) ∧ Below w.heap.size w w' := by
  have h0 : 0 ≤ t % 4294967296 := by omega
  have h1 : t % 4294967296 ≤ 4294967295 := by omega
  have k0 : max (t % 4294967296) 0 = t % 4294967296 := by omega
  have k1 : max (t % 4294967296 + (1365 - t % 4294967296 % 1365)) 0 = t % 4294967296 + (1365 - t % 4294967296 % 1365) := by omega
  have k2 : max (t % 4294967296 + (1365 - t % 4294967296 % 1365) - 1) 0 = t % 4294967296 + (1365 - t % 4294967296 % 1365) - 1 := by omega
  have N1 : ∀ w, Calls Try.prog 8 #[.int .i64 (t % 4294967296)] w fun e w' => e = .returned (.int .i64 (1365 - t % 4294967296 % 1365)) ∧ w = w' := fun w => by
    have := next_any (t % 4294967296) (by omega) w
    rw [k0] at this; exact this
  have L1 : ∀ w, Calls Try.prog 9 #[.int .i64 (t % 4294967296)] w fun e w' => e = .returned (.tuple #[.int .i64 (t % 4294967296 / 1365), .int .i64 (t % 4294967296 % 1365)]) ∧ w = w' := fun w => by
    have := line_any (t % 4294967296) (by omega) w
    rw [k0] at this; exact this
  have L2 : ∀ w, Calls Try.prog 9 #[.int .i64 (t % 4294967296 + (1365 - t % 4294967296 % 1365))] w fun e w' => e = .returned (.tuple #[.int .i64 (t % 4294967296 / 1365 + 1), .int .i64 0]) ∧ w = w' := fun w => by
    have := line_any (t % 4294967296 + (1365 - t % 4294967296 % 1365)) (by omega) w
    rw [k1, show (t % 4294967296 + (1365 - t % 4294967296 % 1365)) / 1365 = t % 4294967296 / 1365 + 1 by omega, show (t % 4294967296 + (1365 - t % 4294967296 % 1365)) % 1365 = 0 by omega] at this; exact this
  have L3 : ∀ w, Calls Try.prog 9 #[.int .i64 (t % 4294967296 + (1365 - t % 4294967296 % 1365) - 1)] w fun e w' => e = .returned (.tuple #[.int .i64 (t % 4294967296 / 1365), .int .i64 1364]) ∧ w = w' := fun w => by
    have := line_any (t % 4294967296 + (1365 - t % 4294967296 % 1365) - 1) (by omega) w
    rw [k2, show (t % 4294967296 + (1365 - t % 4294967296 % 1365) - 1) / 1365 = t % 4294967296 / 1365 by omega, show (t % 4294967296 + (1365 - t % 4294967296 % 1365) - 1) % 1365 = 1364 by omega] at this; exact this
  have a0 : 0 ≤ t % 4294967296 % 1365 := by omega
  have a1 : t % 4294967296 % 1365 ≤ 1364 := by omega
  have a2 : 0 ≤ t % 4294967296 / 1365 := by omega
  have a3 : t % 4294967296 / 1365 ≤ 4294967295 := by omega
  have e1 : (t % 4294967296 / 1365 * 1365 + t % 4294967296 % 1365 == t % 4294967296) = true := by rw [beq_iff_eq]; omega
  have HN := Lib.hid N1
  have H1 := Lib.hid L1
  have H2 := Lib.hid L2
  have H3 := Lib.hid L3
  clear N1 L1 L2 L3 k0 k1 k2
  go_enter Try.func3, Try.ntmps3
  go_wp2_with fail
  refine (HN.out _).mono ?_; rintro e w' ⟨rfl, rfl⟩
  go_wp2_with fail
  refine (H1.out _).mono ?_; rintro e w' ⟨rfl, rfl⟩
  go_wp2_with fail
  refine (H2.out _).mono ?_; rintro e w' ⟨rfl, rfl⟩
  go_wp2_with fail
  refine (H3.out _).mono ?_; rintro e w' ⟨rfl, rfl⟩
  go_wp2
  go_ret
  exact ⟨ret_bool rfl, Below.refl _ _⟩

set_option maxRecDepth 100000 in
set_option maxHeartbeats 4000000 in
theorem walk_timingTells (c0 : List Value) (f0 : OP.FitsAll [true, true, true, true, true, true] c0) (tick : Int) (ht : -9223372036854775808 ≤ tick ∧ tick ≤ 9223372036854775807) (line : Int) (hl : -9223372036854775808 ≤ line ∧ line ≤ 9223372036854775807) (w : World) :
    Calls Try.prog 6 #[.agg ⟨c0⟩, .int .i64 tick, .int .i64 line] w fun e w' => e = .returned (.bool true) ∧ Below w.heap.size w w' := by
  obtain ⟨d, r0, rfl, hd, f1⟩ := OP.cons_int f0
  obtain ⟨l, r1, rfl, hl', f2⟩ := OP.cons_int f1
  obtain ⟨h, r2, rfl, hh, f3⟩ := OP.cons_int f2
  obtain ⟨vp, r3, rfl, hp, f4⟩ := OP.cons_int f3
  obtain ⟨vd, r4, rfl, hvd, f5⟩ := OP.cons_int f4
  obtain ⟨vc, r5, rfl, hc, f6⟩ := OP.cons_int f5
  obtain rfl := OP.none_left f6
  clear f0 f1 f2 f3 f4 f5 f6
  obtain ⟨_, _, _, g1, g2, g3, g4, g5, _, _⟩ := geo_rng d l h vp vd
  have SH := Lib.hid (fun w => shown_any (vWidth d h) (vTop l vp) (vBottom l vp vd) (vBlank l vp vd) (vLines l) line (by omega) (by omega) hl w)
  have RS := Lib.hid (fun w => rshown_any (vWidth d h) (vTop l vp) (vBottom l vp vd) (vBlank l vp vd) (vLines l) line (by omega) (by omega) hl w)
  have FR := Lib.hid (fun w => frame_any (vWidth d h) (vTop l vp) (vBottom l vp vd) (vBlank l vp vd) (vLines l) (by omega) (by omega) w)
  go_enter Try.func6, Try.ntmps6
  go_wp2_with fail
  refine (of_any _ _ _ _ _ _ _).mono ?_; rintro e w1 ⟨rfl, hB1⟩
  obtain ⟨hc1, hf1, _⟩ := hB1.facts
  have hz1 : w.heap.size < w1.heap.size := by have := hB1.size; simp only [World.size_alloc] at this; omega
  go_wp2_with fail
  refine (rof_any _ _ _ _ _ _ hh hp hvd _).mono ?_; rintro e w2 ⟨rfl, hB2⟩
  obtain ⟨hc2, hf2, _⟩ := hB2.facts
  have hz2 : w1.heap.size < w2.heap.size := by have := hB2.size; simp only [World.size_alloc] at this; omega
  have hz3 : w.heap.size < w2.heap.size := by omega
  have hz4 : w1.heap.size < w2.heap.size + 1 := by omega
  have hU2 : Up w w2 := (((Up.refl w).alloc _).trans hB1).trans ((Up.alloc (Up.refl w1) _).trans hB2)
  go_wp2_with (first | (go_at_call 9; refine (line_any _ ht _).mono ?_; rintro e w' ⟨rfl, rfl⟩) | (go_at_call 14; refine (rline_any _ ht _).mono ?_; rintro e w' ⟨rfl, rfl⟩))
  go_region_held3 (fun w' => Up w w' ∧ w1.heap.size < w'.heap.size ∧ w2.heap.size < w'.heap.size ∧ w'.cell? ⟨w1.heap.size, 0, none⟩ = some (.int .i64 (vWidth d h)) ∧ w'.cell? ⟨w1.heap.size, 1, none⟩ = some (.int .i64 (vTop l vp)) ∧ w'.cell? ⟨w1.heap.size, 2, none⟩ = some (.int .i64 (vBottom l vp vd)) ∧ w'.cell? ⟨w1.heap.size, 3, none⟩ = some (.int .i64 (vBlank l vp vd)) ∧ w'.cell? ⟨w1.heap.size, 4, none⟩ = some (.int .i64 (vLines l)) ∧ w'.cell? ⟨w2.heap.size, 0, none⟩ = some (.int .i64 (vWidth d h)) ∧ w'.cell? ⟨w2.heap.size, 1, none⟩ = some (.int .i64 (vTop l vp)) ∧ w'.cell? ⟨w2.heap.size, 2, none⟩ = some (.int .i64 (vBottom l vp vd)) ∧ w'.cell? ⟨w2.heap.size, 3, none⟩ = some (.int .i64 (vBlank l vp vd)) ∧ w'.cell? ⟨w2.heap.size, 4, none⟩ = some (.int .i64 (vLines l))) (go_keep) (first | (go_at_call 11; refine (SH.out _).mono ?_; rintro e w3 ⟨rfl, hB3⟩; obtain ⟨hc3, hf3, hz3⟩ := hB3.facts; have hU3 : Up w w3 := (by first | exact Up.trans (by assumption) hB3 | exact Up.trans (Up.drew (Up.alloc hU2 _)) hB3); have hy1 : w1.heap.size < w3.heap.size := (by omega); have hy2 : w2.heap.size < w3.heap.size := (by omega)) | (go_at_call 15; refine (RS.out _).mono ?_; rintro e w3 ⟨rfl, hB3⟩; obtain ⟨hc3, hf3, hz3⟩ := hB3.facts; have hU3 : Up w w3 := (Up.trans (by assumption) hB3); have hy1 : w1.heap.size < w3.heap.size := (by omega); have hy2 : w2.heap.size < w3.heap.size := (by omega)) | (go_at_call 8; refine (next_any _ ht _).mono ?_; rintro e w' ⟨rfl, rfl⟩) | (go_at_call 16; refine (rnext_any _ ht _).mono ?_; rintro e w' ⟨rfl, rfl⟩) | (go_at_call 12; refine (FR.out _).mono ?_; rintro e w3 ⟨rfl, hB3⟩; obtain ⟨hc3, hf3, hz3⟩ := hB3.facts; have hU3 : Up w w3 := (Up.trans (by assumption) hB3); have hy1 : w1.heap.size < w3.heap.size := (by omega); have hy2 : w2.heap.size < w3.heap.size := (by omega)))
  go_wp2
  go_ret
  exact ⟨ret_bool (by rw [IntWalk.i64_in _ (by omega)]; exact beq_self_eq_true _), by assumption⟩
end Go.Proofs.Ytdinpclbfolimaa
