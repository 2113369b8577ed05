/- The walk of the law TimingGrows: it returns true. -/
import Derived.Test.YtdinpclbfolimaaB
import Derived.Test.YtdinpclbfolimaaOP
namespace Go.Proofs.Ytdinpclbfolimaa
open Go.RowKit
attribute [local go_sem] BM.and31 BM.and63 BM.and127 BM.and255 BM.and511

theorem grows (d l h vp vd m : Int) (hh0 : 0 ≤ h) (hh1 : h ≤ 63) (hv0 : 0 ≤ vd) (hv1 : vd ≤ 255) (hm0 : 0 ≤ m) (hm1 : m ≤ 63) :
    vBottom l vp vd ≤ vBottom l vp (vd + m) ∧ vBottom l vp (vd + m) - vBottom l vp vd ≤ m ∧ vWidth d h ≤ vWidth d (h + m) ∧ vWidth d (h + m) - vWidth d h ≤ 8 * m ∧ 8 ≤ vWidth d h ∧ vWidth d (h + m) ≤ 512 ∧ 3 ≤ vBottom l vp vd ∧ vBottom l vp (vd + m) ≤ 263 := by
  have hd : min (max d 2) 4 = 2 ∨ min (max d 2) 4 = 3 ∨ min (max d 2) 4 = 4 := by omega
  unfold vBottom vTop vLines vWidth
  rcases hd with h | h | h <;> rw [h] <;> omega

set_option maxHeartbeats 2000000 in
set_option maxRecDepth 100000 in
theorem walk_timingGrows (c0 : List Value) (f0 : OP.FitsAll [true, true, true, true, true, true] c0) (m : Int) (_hm : -9223372036854775808 ≤ m ∧ m ≤ 9223372036854775807) (w : World) :
    Calls Try.prog 4 #[.agg ⟨c0⟩, .int .i64 m] w fun e w' => e = .returned (.bool true) ∧ Below w.heap.size w w' := by
  obtain ⟨d, r0, rfl, hd, f1⟩ := OP.cons_int f0
  obtain ⟨l, r1, rfl, hl', f2⟩ := OP.cons_int f1
  obtain ⟨h, r2, rfl, hh, f3⟩ := OP.cons_int f2
  obtain ⟨vp, r3, rfl, hp, f4⟩ := OP.cons_int f3
  obtain ⟨vd, r4, rfl, hvd, f5⟩ := OP.cons_int f4
  obtain ⟨vc, r5, rfl, hc, f6⟩ := OP.cons_int f5
  obtain rfl := OP.none_left f6
  clear f0 f1 f2 f3 f4 f5 f6
  obtain ⟨q1, q2, q3, q4, q5, q6, q7, q8⟩ := grows d l (h % 64) vp (vd % 256) (m % 64) (by omega) (by omega) (by omega) (by omega) (by omega) (by omega)
  have a0 : 0 ≤ vd % 256 := by omega
  have a1 : vd % 256 ≤ 255 := by omega
  have a2 : 0 ≤ h % 64 := by omega
  have a3 : h % 64 ≤ 63 := by omega
  have a4 : 0 ≤ m % 64 := by omega
  have a5 : m % 64 ≤ 63 := by omega
  go_enter Try.func4, Try.ntmps4
  go_wp2_with fail
  refine (of_any _ _ _ _ _ _ _).mono ?_; rintro e w1 ⟨rfl, hB1⟩
  obtain ⟨hc1, hf1, _⟩ := hB1.facts
  have hz1 : w.heap.size < w1.heap.size := by have := hB1.size; simp only [World.size_alloc] at this; omega
  go_wp2_with fail
  go_region
  go_wp2_with fail
  refine (of_any _ _ _ _ _ _ _).mono ?_; rintro e w2 ⟨rfl, hB2⟩
  obtain ⟨hc2, hf2, _⟩ := hB2.facts
  have hz2 : w1.heap.size < w2.heap.size := by have := hB2.size; simp at this; omega
  go_wp2
  go_ret
  exact ⟨ret_bool rfl, (by repeat (first | exact Up.refl _ | assumption | refine Up.alloc ?_ _ | refine Up.drew ?_ | refine Up.trans ?_ (by assumption)))⟩
end Go.Proofs.Ytdinpclbfolimaa
