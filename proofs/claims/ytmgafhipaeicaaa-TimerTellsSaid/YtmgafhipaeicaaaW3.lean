/- The walk of the law TimerTells: it returns true. -/
import Derived.Test.YtmgafhipaeicaaaR
import Derived.Test.YtmgafhipaeicaaaOP
import Derived.Deep.RegionHeld3
namespace Go.Proofs.Ytmgafhipaeicaaa
open Go.RowKit
attribute [local go_sem] BM.and127

/-- The timer so many ticks on, whatever the timer: both sides come to the same. -/
theorem both_adv (r c : Int) (on : Bool) (p t : Int) (ht : t ≤ 1099511627776) : ∃ (c2 : Int) (p2 n : Int),
    (∀ w, Calls Try.prog 8 #[.agg #[.int .i64 r, .int .i64 c, .bool on, .int .i64 p], .int .i64 t] w fun e w' => e = .returned (.tuple #[.agg #[.int .i64 r, .int .i64 c2, .bool on, .int .i64 p2], .int .i64 n]) ∧ Up w w') ∧
    (∀ w, Calls Try.prog 12 #[.agg #[.int .i64 r, .int .i64 c, .bool on, .int .i64 p], .int .i64 t] w fun e w' => e = .returned (.tuple #[.agg #[.int .i64 r, .int .i64 c2, .bool on, .int .i64 p2], .int .i64 n]) ∧ Up w w') := by
  cases hv : vValid r c on p
  · exact ⟨c, p, 0, fun w => adv_bad r c on p t hv w, fun w => radv_bad r c on p t hv w⟩
  · cases on
    · exact ⟨c, p, 0, fun w => adv_off r c p t hv w, fun w => radv_off r c p t hv w⟩
    · by_cases h1 : t < 1
      · exact ⟨c, p, 0, fun w => adv_few r c p t hv h1 w, fun w => radv_few r c p t hv h1 w⟩
      · obtain ⟨a1, a2, a3, a4, a5, a6, _⟩ := valid_rng hv
        exact ⟨_, _, _, fun w => adv_yes r c p t a1 a2 a3 a4 a5 a6 (by omega) ht w, fun w => radv_yes r c p t a1 a2 a3 a4 a5 a6 (by omega) ht w⟩

theorem valid_up (r c : Int) (on : Bool) (p : Int) (w : World) : Calls Try.prog 9 #[.agg #[.int .i64 r, .int .i64 c, .bool on, .int .i64 p]] w (fun e w' => e = .returned (.bool (vValid r c on p)) ∧ Up w w') :=
  (valid_any r c on p w).mono fun _ _ ⟨h, h2⟩ => ⟨h, h2 ▸ ((Up.refl _).alloc _).alloc _⟩
theorem rvalid_up (r c : Int) (on : Bool) (p : Int) (w : World) : Calls Try.prog 15 #[.agg #[.int .i64 r, .int .i64 c, .bool on, .int .i64 p]] w (fun e w' => e = .returned (.bool (vValid r c on p)) ∧ Up w w') :=
  (rvalid_any r c on p w).mono fun _ _ ⟨h, h2⟩ => ⟨h, h2 ▸ (Up.refl _).alloc _⟩

set_option maxHeartbeats 8000000 in
set_option maxRecDepth 100000 in
theorem walk_timerTells (c0 : List Value) (f0 : OP.FitsAll [true, true, false, true] c0) (t : Int) (_ht : -9223372036854775808 ≤ t ∧ t ≤ 9223372036854775807) (c2 : List Value) (f2 : OP.FitsAll [true, true] c2) (w : World) :
    Calls Try.prog 6 #[.agg ⟨c0⟩, .int .i64 t, .agg ⟨c2⟩] w fun e w' => e = .returned (.bool true) ∧ Below w.heap.size w w' := by
  obtain ⟨r, r0, rfl, _, f1⟩ := OP.cons_int f0
  obtain ⟨c, r1, rfl, _, g2⟩ := OP.cons_int f1
  obtain ⟨on, r2, rfl, f3⟩ := OP.cons_bool g2
  obtain ⟨p, r3, rfl, _, f4⟩ := OP.cons_int f3
  obtain rfl := OP.none_left f4
  obtain ⟨k, r4, rfl, _, g3⟩ := OP.cons_int f2
  obtain ⟨b, r5, rfl, _, g4⟩ := OP.cons_int g3
  obtain rfl := OP.none_left g4
  clear f0 f1 f2 f3 f4 g2 g3 g4
  have htm := BM.tmod_cases t 8388608 (by omega)
  obtain ⟨T, hT⟩ : ∃ x, t.tmod 8388608 = x := ⟨_, rfl⟩
  obtain ⟨d, q, n, hA, hR⟩ := both_adv r c on p T (by omega)
  have HA := Lib.hid hA
  have HR := Lib.hid hR
  have vz : vValid 0 0 false 0 = true := by decide +kernel
  clear hA hR htm
  go_enter Try.func6, Try.ntmps6
  go_wp2_with fail
  refine (HA.out _).mono ?_; rintro e w1 ⟨rfl, hU1⟩
  obtain ⟨hc1, hf1, _⟩ := hU1.facts
  have hz1 : w.heap.size + 1 < w1.heap.size := by have := hU1.size; (try simp only [World.size_alloc] at this); omega
  have hz0 : w.heap.size < w1.heap.size := by omega
  go_wp2_with fail
  refine (HR.out _).mono ?_; rintro e w2 ⟨rfl, hU2⟩
  have hz2 : w1.heap.size < w2.heap.size := by have := hU2.size; (try simp only [World.size_alloc] at this); omega
  have hz3 : w.heap.size + 1 < w2.heap.size := by omega
  have hz4 : w.heap.size < w2.heap.size := by omega
  obtain ⟨hc2, hf2, _⟩ := hU2.facts
  go_wp2
  have hU : Up w (w2.alloc (.cells #[.int .i64 r, .int .i64 d, .bool on, .int .i64 q] 32)) := ((((((Up.refl w).alloc _).alloc _).trans hU1).alloc _).trans hU2).alloc _
  have y0 : w.heap.size < (w2.alloc (.cells #[.int .i64 r, .int .i64 d, .bool on, .int .i64 q] 32)).heap.size := by simp only [World.size_alloc]; omega
  have y1 : w.heap.size + 1 < (w2.alloc (.cells #[.int .i64 r, .int .i64 d, .bool on, .int .i64 q] 32)).heap.size := by simp only [World.size_alloc]; omega
  have y2 : w1.heap.size < (w2.alloc (.cells #[.int .i64 r, .int .i64 d, .bool on, .int .i64 q] 32)).heap.size := by simp only [World.size_alloc]; omega
  have y3 : w2.heap.size < (w2.alloc (.cells #[.int .i64 r, .int .i64 d, .bool on, .int .i64 q] 32)).heap.size := by simp only [World.size_alloc]; omega
  have z0 : (w2.alloc (.cells #[.int .i64 r, .int .i64 d, .bool on, .int .i64 q] 32)).cell? ⟨w.heap.size, 0, none⟩ = some (.int .i64 r) := by go_simp
  have z1 : (w2.alloc (.cells #[.int .i64 r, .int .i64 d, .bool on, .int .i64 q] 32)).cell? ⟨w.heap.size, 1, none⟩ = some (.int .i64 c) := by go_simp
  have z2 : (w2.alloc (.cells #[.int .i64 r, .int .i64 d, .bool on, .int .i64 q] 32)).cell? ⟨w.heap.size, 2, none⟩ = some (.bool on) := by go_simp
  have z3 : (w2.alloc (.cells #[.int .i64 r, .int .i64 d, .bool on, .int .i64 q] 32)).cell? ⟨w.heap.size, 3, none⟩ = some (.int .i64 p) := by go_simp
  have z4 : (w2.alloc (.cells #[.int .i64 r, .int .i64 d, .bool on, .int .i64 q] 32)).cell? ⟨w.heap.size + 1, 0, none⟩ = some (.int .i64 k) := by go_simp
  have z5 : (w2.alloc (.cells #[.int .i64 r, .int .i64 d, .bool on, .int .i64 q] 32)).cell? ⟨w.heap.size + 1, 1, none⟩ = some (.int .i64 b) := by go_simp
  have z6 : (w2.alloc (.cells #[.int .i64 r, .int .i64 d, .bool on, .int .i64 q] 32)).cell? ⟨w1.heap.size, 0, none⟩ = some (.int .i64 r) := by go_simp
  have z7 : (w2.alloc (.cells #[.int .i64 r, .int .i64 d, .bool on, .int .i64 q] 32)).cell? ⟨w1.heap.size, 1, none⟩ = some (.int .i64 d) := by go_simp
  have z8 : (w2.alloc (.cells #[.int .i64 r, .int .i64 d, .bool on, .int .i64 q] 32)).cell? ⟨w1.heap.size, 2, none⟩ = some (.bool on) := by go_simp
  have z9 : (w2.alloc (.cells #[.int .i64 r, .int .i64 d, .bool on, .int .i64 q] 32)).cell? ⟨w1.heap.size, 3, none⟩ = some (.int .i64 q) := by go_simp
  have z10 : (w2.alloc (.cells #[.int .i64 r, .int .i64 d, .bool on, .int .i64 q] 32)).cell? ⟨w2.heap.size, 0, none⟩ = some (.int .i64 r) := by go_simp
  have z11 : (w2.alloc (.cells #[.int .i64 r, .int .i64 d, .bool on, .int .i64 q] 32)).cell? ⟨w2.heap.size, 1, none⟩ = some (.int .i64 d) := by go_simp
  have z12 : (w2.alloc (.cells #[.int .i64 r, .int .i64 d, .bool on, .int .i64 q] 32)).cell? ⟨w2.heap.size, 2, none⟩ = some (.bool on) := by go_simp
  have z13 : (w2.alloc (.cells #[.int .i64 r, .int .i64 d, .bool on, .int .i64 q] 32)).cell? ⟨w2.heap.size, 3, none⟩ = some (.int .i64 q) := by go_simp
  generalize (w2.alloc (.cells #[.int .i64 r, .int .i64 d, .bool on, .int .i64 q] 32)) = W0 at *
  clear hc1 hf1 hc2 hf2 hz0 hz1 hz2 hz3 hz4
  go_region_held3 (fun w' => Up W0 w' ∧ ∀ b o, b < W0.heap.size → w'.cell? ⟨b, o, none⟩ = W0.cell? ⟨b, o, none⟩) (first | exact ⟨by assumption, by assumption⟩ | go_keep) (first | (go_at_call 10; refine (next_any _ _ _ _ _).mono ?_; rintro e w3 ⟨rfl, hB3⟩; have hU3 : Up W0 w3 := (by first | exact Up.trans (by assumption) hB3 | exact Up.trans (Up.drew (Up.refl W0)) hB3); have hc3 : ∀ b o, b < W0.heap.size → w3.cell? ⟨b, o, none⟩ = W0.cell? ⟨b, o, none⟩ := (fun b o hb => hU3.cell hb)) | (go_at_call 13; refine (rnext_any _ _ _ _ _).mono ?_; rintro e w3 ⟨rfl, hB3⟩; have hU3 : Up W0 w3 := (by first | exact Up.trans (by assumption) hB3 | exact Up.trans (Up.drew (Up.refl W0)) hB3); have hc3 : ∀ b o, b < W0.heap.size → w3.cell? ⟨b, o, none⟩ = W0.cell? ⟨b, o, none⟩ := (fun b o hb => hU3.cell hb)) | (go_at_call 11; refine (write_any _ _ _ _ _ _ _).mono ?_; rintro e w3 ⟨rfl, hB3⟩; have hU3 : Up W0 w3 := (by first | exact Up.trans (by assumption) hB3 | exact Up.trans (Up.drew (Up.refl W0)) hB3); have hc3 : ∀ b o, b < W0.heap.size → w3.cell? ⟨b, o, none⟩ = W0.cell? ⟨b, o, none⟩ := (fun b o hb => hU3.cell hb)) | (go_at_call 14; refine (rwrite_any _ _ _ _ _ _ _).mono ?_; rintro e w3 ⟨rfl, hB3⟩; have hU3 : Up W0 w3 := (by first | exact Up.trans (by assumption) hB3 | exact Up.trans (Up.drew (Up.refl W0)) hB3); have hc3 : ∀ b o, b < W0.heap.size → w3.cell? ⟨b, o, none⟩ = W0.cell? ⟨b, o, none⟩ := (fun b o hb => hU3.cell hb)) | (go_at_call 9; refine (valid_up _ _ _ _ _).mono ?_; rintro e w3 ⟨rfl, hB3⟩; have hU3 : Up W0 w3 := (by first | exact Up.trans (by assumption) hB3 | exact Up.trans (Up.drew (Up.refl W0)) hB3); have hc3 : ∀ b o, b < W0.heap.size → w3.cell? ⟨b, o, none⟩ = W0.cell? ⟨b, o, none⟩ := (fun b o hb => hU3.cell hb)) | (go_at_call 15; refine (rvalid_up _ _ _ _ _).mono ?_; rintro e w3 ⟨rfl, hB3⟩; have hU3 : Up W0 w3 := (by first | exact Up.trans (by assumption) hB3 | exact Up.trans (Up.drew (Up.refl W0)) hB3); have hc3 : ∀ b o, b < W0.heap.size → w3.cell? ⟨b, o, none⟩ = W0.cell? ⟨b, o, none⟩ := (fun b o hb => hU3.cell hb)) | (go_at_call 16; refine (read_any _ _ _ _ _).mono ?_; rintro e w3 ⟨rfl, hB3⟩; have hU3 : Up W0 w3 := (by first | exact Up.trans (by assumption) hB3 | exact Up.trans (Up.drew (Up.refl W0)) hB3); have hc3 : ∀ b o, b < W0.heap.size → w3.cell? ⟨b, o, none⟩ = W0.cell? ⟨b, o, none⟩ := (fun b o hb => hU3.cell hb)))
  go_wp2
  go_ret
  exact ⟨ret_bool rfl, hU.trans (by assumption)⟩
end Go.Proofs.Ytmgafhipaeicaaa
