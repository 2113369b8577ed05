/- The walk of the law TimerWrites: it returns true. -/
import Derived.Test.YtmgafhipaeicaaaW
import Derived.Deep.RegionHeld3
import Derived.Deep.DeepCutAuto
namespace Go.Proofs.Ytmgafhipaeicaaa
open Go.RowKit
attribute [local go_sem] BM.and127

theorem up_both {a w : World} (h : Up a w) : Up a w ∧ ∀ b o, b < a.heap.size → w.cell? ⟨b, o, none⟩ = a.cell? ⟨b, o, none⟩ := ⟨h, fun _ _ hb => h.cell hb⟩

theorem next_exact (r c : Int) (p : Int) (hv : vValid r c true p = true) (w : World) :
    Calls Try.prog 10 #[.agg #[.int .i64 r, .int .i64 c, .bool true, .int .i64 p]] w fun e w' => e = .returned (.int .i64 ((c + 1) * 3072 - p)) ∧ ((w.alloc (.cells #[.int .i64 r, .int .i64 c, .bool true, .int .i64 p] 23)).alloc (.cells #[.int .i64 r, .int .i64 c, .bool true, .int .i64 p] 23)).alloc (.cells #[.int .i64 r, .int .i64 c, .bool false, .int .i64 0] 23) = w' := by
  obtain ⟨a1, a2, a3, a4, a5, a6, _⟩ := valid_rng hv
  go_enter Try.func10, Try.ntmps10
  go_wp2_with (go_at_call 9; refine (valid_any _ _ _ _ _).mono ?_; rintro e w1 ⟨rfl, rfl⟩)
  go_ret
  exact ⟨rfl, rfl⟩

set_option maxHeartbeats 1000000 in
/-- To the end of its count: it comes round once. -/
theorem adv_exact (r c p t : Int) (h1 : 0 ≤ r) (h2 : r ≤ 127) (h3 : 0 ≤ c) (h4 : c ≤ 127) (h5 : 0 ≤ p) (h6 : p ≤ 3071) (ht : (c + 1) * 3072 - p = t) (w : World) :
    Calls Try.prog 8 #[.agg #[.int .i64 r, .int .i64 c, .bool true, .int .i64 p], .int .i64 t] w
      fun e w' => e = .returned (.tuple #[.agg #[.int .i64 r, .int .i64 r, .bool true, .int .i64 0], .int .i64 1]) ∧
        (((((w.alloc (.cells #[.int .i64 r, .int .i64 r, .bool true, .int .i64 0] 23)).alloc (.cells #[.int .i64 r, .int .i64 r, .bool true, .int .i64 0] 23)).alloc (.cells #[.int .i64 r, .int .i64 c, .bool true, .int .i64 p] 23)).alloc (.cells #[.int .i64 r, .int .i64 c, .bool false, .int .i64 0] 23)).drew).drew = w' := by
  have hv := valid_true h1 h2 h3 h4 h5 h6 rfl
  have e0 : (p + t) / 3072 = c + 1 := by omega
  have e1 : (p + t) % 3072 = 0 := by omega
  have e2 : c + 1 - (c + 1) = 0 := by omega
  have t0 : 1 ≤ t := by omega
  have t1 : t ≤ 400000 := by omega
  have d0 : decide (t < 1) = false := decide_eq_false (by omega)
  have d1 : decide (1099511627776 < t) = false := decide_eq_false (by omega)
  have a0 : 1 ≤ r + 1 := by omega
  clear ht
  go_enter Try.func8, Try.ntmps8
  go_wp2_with fail
  refine (valid_any _ _ _ _ _).mono ?_; rintro e w1 ⟨rfl, rfl⟩
  go_wp2
  go_region
  go_wp2
  go_region
  go_wp2
  refine bodyPost_ret (v := .tuple #[.agg #[.int .i64 r, .int .i64 r, .bool true, .int .i64 0], .int .i64 1]) ?_ rfl ⟨rfl, ?_⟩
  · simp [results, Try.results8, go_sem]
  · rfl

theorem read_exact (r c : Int) (on : Bool) (p : Int) (w : World) :
    Calls Try.prog 16 #[.agg #[.int .i64 r, .int .i64 c, .bool on, .int .i64 p]] w fun e w' => e = .returned (.int .i64 c) ∧ w.alloc (.cells #[.int .i64 r, .int .i64 c, .bool on, .int .i64 p] 23) = w' := by
  go_enter Try.func16, Try.ntmps16
  go_wp2
  go_ret
  exact ⟨rfl, rfl⟩
theorem write_exact (r c : Int) (on : Bool) (p b : Int) (w : World) :
    Calls Try.prog 11 #[.agg #[.int .i64 r, .int .i64 c, .bool on, .int .i64 p], .int .i64 2, .int .i64 b] w
      fun e w' => e = .returned (.agg #[.int .i64 r, .int .i64 c, .bool on, .int .i64 p]) ∧ (w.alloc (.cells #[.int .i64 r, .int .i64 c, .bool on, .int .i64 p] 23)).alloc (.cells #[.int .i64 r, .int .i64 c, .bool on, .int .i64 p] 23) = w' := by
  go_enter Try.func11, Try.ntmps11
  go_wp2_with (go_at_call 18; refine (bit_any _ _ _).mono ?_; rintro e w' ⟨rfl, rfl⟩)
  refine bodyPost_ret (v := .agg #[.int .i64 r, .int .i64 c, .bool on, .int .i64 p]) ?_ rfl ⟨rfl, ?_⟩
  · simp [results, Try.results11, go_sem]
  · rfl

set_option maxHeartbeats 8000000 in
set_option maxRecDepth 100000 in
theorem walk_timerWrites (c0 : List Value) (f0 : OP.FitsAll [true, true, false, true] c0) (b : Int) (_hb : -9223372036854775808 ≤ b ∧ b ≤ 9223372036854775807) (w : World) :
    Calls Try.prog 7 #[.agg ⟨c0⟩, .int .i64 b] w fun e w' => e = .returned (.bool true) ∧ Below w.heap.size w w' := by
  obtain ⟨r, r0, rfl, _, f1⟩ := OP.cons_int f0
  obtain ⟨c, r1, rfl, _, f2⟩ := OP.cons_int f1
  obtain ⟨on, r2, rfl, f3⟩ := OP.cons_bool f2
  obtain ⟨p, r3, rfl, _, f4⟩ := OP.cons_int f3
  obtain rfl := OP.none_left f4
  clear f0 f1 f2 f3 f4
  obtain ⟨p0, p1⟩ := pre_rng p
  obtain ⟨R, hR⟩ : ∃ x, r % 128 = x := ⟨_, rfl⟩
  obtain ⟨C, hC⟩ : ∃ x, c % 128 = x := ⟨_, rfl⟩
  obtain ⟨P, hP⟩ : ∃ x, (p.tmod 3072 + 3072) % 3072 = x := ⟨_, rfl⟩
  obtain ⟨B, hB⟩ : ∃ x, b % 128 = x := ⟨_, rfl⟩
  have R0 : 0 ≤ R := by omega
  have R1 : R ≤ 127 := by omega
  have C0 : 0 ≤ C := by omega
  have C1 : C ≤ 127 := by omega
  have P0 : 0 ≤ P := by omega
  have P1 : P ≤ 3071 := by omega
  have B0 : 0 ≤ B := by omega
  have B1 : B ≤ 127 := by omega
  have hb1 : BM.vBit 1 0 = 1 := by decide +kernel
  have hb0 : ¬ BM.vBit 0 0 = 1 := by decide +kernel
  obtain ⟨N, hN⟩ : ∃ x, (C + 1) * 3072 - P = x := ⟨_, rfl⟩
  have WA := Lib.hid (show ∀ w, Calls Try.prog 11 #[.agg #[.int .i64 R, .int .i64 C, .bool true, .int .i64 P], .int .i64 1, .int .i64 1] w (fun e w' => e = .returned (.agg #[.int .i64 R, .int .i64 C, .bool true, .int .i64 P]) ∧ Up w w') from fun w => by
    have h := write_any R C true P 1 1 w
    rw [show wR R 1 1 = R by unfold wR; rw [if_neg (by omega)], show wC R C true 1 1 = C by unfold wC; rw [if_neg (by simp)], show wOn true 1 1 = true by unfold wOn; rw [if_pos rfl, decide_eq_true hb1], show wP true P 1 1 = P by unfold wP; rw [if_neg (by simp [hb1])]] at h
    exact h)
  have WO := Lib.hid (show ∀ w, Calls Try.prog 11 #[.agg #[.int .i64 R, .int .i64 C, .bool true, .int .i64 P], .int .i64 0, .int .i64 b] w (fun e w' => e = .returned (.agg #[.int .i64 B, .int .i64 C, .bool true, .int .i64 P]) ∧ Up w w') from fun w => by
    have h := write_any R C true P 0 b w
    rw [show wR R 0 b = B by unfold wR; rw [if_pos rfl]; exact hB, show wC R C true 0 b = C by unfold wC; rw [if_neg (by omega)], show wOn true 0 b = true by unfold wOn; rw [if_neg (by omega)], show wP true P 0 b = P by unfold wP; rw [if_neg (by omega)]] at h
    exact h)
  have WF := Lib.hid (show ∀ w, Calls Try.prog 11 #[.agg #[.int .i64 R, .int .i64 C, .bool true, .int .i64 P], .int .i64 1, .int .i64 0] w (fun e w' => e = .returned (.agg #[.int .i64 R, .int .i64 C, .bool false, .int .i64 0]) ∧ Up w w') from fun w => by
    have h := write_any R C true P 1 0 w
    rw [show wR R 1 0 = R by unfold wR; rw [if_neg (by omega)], show wC R C true 1 0 = C by unfold wC; rw [if_neg (by simp)], show wOn true 1 0 = false by unfold wOn; rw [if_pos rfl, decide_eq_false hb0], show wP true P 1 0 = 0 by unfold wP; rw [if_pos ⟨rfl, .inl hb0⟩]] at h
    exact h)
  have WN := Lib.hid (show ∀ w, Calls Try.prog 11 #[.agg #[.int .i64 R, .int .i64 C, .bool false, .int .i64 0], .int .i64 1, .int .i64 1] w (fun e w' => e = .returned (.agg #[.int .i64 R, .int .i64 R, .bool true, .int .i64 0]) ∧ Up w w') from fun w => by
    have h := write_any R C false 0 1 1 w
    rw [show wR R 1 1 = R by unfold wR; rw [if_neg (by omega)], show wC R C false 1 1 = R by unfold wC; rw [if_pos ⟨rfl, hb1, rfl⟩], show wOn false 1 1 = true by unfold wOn; rw [if_pos rfl, decide_eq_true hb1], show wP false 0 1 1 = 0 by unfold wP; split <;> rfl] at h
    exact h)
  have WT := Lib.hid (show ∀ w, Calls Try.prog 11 #[.agg #[.int .i64 R, .int .i64 C, .bool true, .int .i64 P], .int .i64 2, .int .i64 b] w (fun e w' => e = .returned (.agg #[.int .i64 R, .int .i64 C, .bool true, .int .i64 P]) ∧ Up w w') from fun w => by
    have h := write_any R C true P 2 b w
    rw [show wR R 2 b = R by unfold wR; rw [if_neg (by omega)], show wC R C true 2 b = C by unfold wC; rw [if_neg (by omega)], show wOn true 2 b = true by unfold wOn; rw [if_neg (by omega)], show wP true P 2 b = P by unfold wP; rw [if_neg (by omega)]] at h
    exact h)
  have hvB := valid_true (r := B) (c := C) (on := true) (p := P) B0 B1 C0 C1 P0 P1 rfl
  have NX := Lib.hid (fun w => next_exact B C P hvB w)
  have AD := Lib.hid (fun w => adv_exact B C P N B0 B1 C0 C1 P0 P1 hN w)
  clear hvB
  clear hb1 hb0
  go_enter Try.func7, Try.ntmps7
  go_wp2_with fail
  refine (WA.out _).mono ?_; rintro e w1 ⟨rfl, hU1⟩
  obtain ⟨hc1, hf1, _⟩ := hU1.facts
  have hz1 : w.heap.size < w1.heap.size := by have := hU1.size; (try simp only [World.size_alloc] at this); omega
  go_wp2_with fail
  refine (WO.out _).mono ?_; rintro e w2 ⟨rfl, hU2⟩
  obtain ⟨hc2, hf2, _⟩ := hU2.facts
  have hz2 : w1.heap.size < w2.heap.size := by have := hU2.size; (try simp only [World.size_alloc] at this); omega
  have hz3 : w.heap.size < w2.heap.size := by omega
  go_wp2_with fail
  refine (WF.out _).mono ?_; rintro e w3 ⟨rfl, hU3⟩
  obtain ⟨hc3, hf3, _⟩ := hU3.facts
  have hz4 : w2.heap.size < w3.heap.size := by have := hU3.size; (try simp only [World.size_alloc] at this); omega
  have hz5 : w1.heap.size < w3.heap.size := by omega
  have hz6 : w.heap.size < w3.heap.size := by omega
  go_wp2_with fail
  refine (WN.out _).mono ?_; rintro e w4 ⟨rfl, hU4⟩
  obtain ⟨hc4, hf4, _⟩ := hU4.facts
  have hz7 : w3.heap.size < w4.heap.size := by have := hU4.size; (try simp only [World.size_alloc] at this); omega
  have hz8 : w2.heap.size < w4.heap.size := by omega
  have hz9 : w1.heap.size < w4.heap.size := by omega
  have hz10 : w.heap.size < w4.heap.size := by omega
  go_wp2_with fail
  have hU : Up w (w4.alloc (.cells #[.int .i64 R, .int .i64 R, .bool true, .int .i64 0] 23)) := (((((((((Up.refl w).alloc _).trans hU1).alloc _).trans hU2).alloc _).trans hU3).alloc _).trans hU4).alloc _
  have y0 : w.heap.size < (w4.alloc (.cells #[.int .i64 R, .int .i64 R, .bool true, .int .i64 0] 23)).heap.size := by simp only [World.size_alloc]; omega
  have y1 : w1.heap.size < (w4.alloc (.cells #[.int .i64 R, .int .i64 R, .bool true, .int .i64 0] 23)).heap.size := by simp only [World.size_alloc]; omega
  have y2 : w2.heap.size < (w4.alloc (.cells #[.int .i64 R, .int .i64 R, .bool true, .int .i64 0] 23)).heap.size := by simp only [World.size_alloc]; omega
  have y3 : w3.heap.size < (w4.alloc (.cells #[.int .i64 R, .int .i64 R, .bool true, .int .i64 0] 23)).heap.size := by simp only [World.size_alloc]; omega
  have y4 : w4.heap.size < (w4.alloc (.cells #[.int .i64 R, .int .i64 R, .bool true, .int .i64 0] 23)).heap.size := by simp only [World.size_alloc]; omega
  have z0 : (w4.alloc (.cells #[.int .i64 R, .int .i64 R, .bool true, .int .i64 0] 23)).cell? ⟨w.heap.size, 0, none⟩ = some (.int .i64 R) := by go_simp
  have z1 : (w4.alloc (.cells #[.int .i64 R, .int .i64 R, .bool true, .int .i64 0] 23)).cell? ⟨w.heap.size, 1, none⟩ = some (.int .i64 C) := by go_simp
  have z2 : (w4.alloc (.cells #[.int .i64 R, .int .i64 R, .bool true, .int .i64 0] 23)).cell? ⟨w.heap.size, 2, none⟩ = some (.bool true) := by go_simp
  have z3 : (w4.alloc (.cells #[.int .i64 R, .int .i64 R, .bool true, .int .i64 0] 23)).cell? ⟨w.heap.size, 3, none⟩ = some (.int .i64 P) := by go_simp
  have z4 : (w4.alloc (.cells #[.int .i64 R, .int .i64 R, .bool true, .int .i64 0] 23)).cell? ⟨w1.heap.size, 0, none⟩ = some (.int .i64 R) := by go_simp
  have z5 : (w4.alloc (.cells #[.int .i64 R, .int .i64 R, .bool true, .int .i64 0] 23)).cell? ⟨w1.heap.size, 1, none⟩ = some (.int .i64 C) := by go_simp
  have z6 : (w4.alloc (.cells #[.int .i64 R, .int .i64 R, .bool true, .int .i64 0] 23)).cell? ⟨w1.heap.size, 2, none⟩ = some (.bool true) := by go_simp
  have z7 : (w4.alloc (.cells #[.int .i64 R, .int .i64 R, .bool true, .int .i64 0] 23)).cell? ⟨w1.heap.size, 3, none⟩ = some (.int .i64 P) := by go_simp
  have z8 : (w4.alloc (.cells #[.int .i64 R, .int .i64 R, .bool true, .int .i64 0] 23)).cell? ⟨w2.heap.size, 0, none⟩ = some (.int .i64 B) := by go_simp
  have z9 : (w4.alloc (.cells #[.int .i64 R, .int .i64 R, .bool true, .int .i64 0] 23)).cell? ⟨w2.heap.size, 1, none⟩ = some (.int .i64 C) := by go_simp
  have z10 : (w4.alloc (.cells #[.int .i64 R, .int .i64 R, .bool true, .int .i64 0] 23)).cell? ⟨w2.heap.size, 2, none⟩ = some (.bool true) := by go_simp
  have z11 : (w4.alloc (.cells #[.int .i64 R, .int .i64 R, .bool true, .int .i64 0] 23)).cell? ⟨w2.heap.size, 3, none⟩ = some (.int .i64 P) := by go_simp
  have z12 : (w4.alloc (.cells #[.int .i64 R, .int .i64 R, .bool true, .int .i64 0] 23)).cell? ⟨w3.heap.size, 0, none⟩ = some (.int .i64 R) := by go_simp
  have z13 : (w4.alloc (.cells #[.int .i64 R, .int .i64 R, .bool true, .int .i64 0] 23)).cell? ⟨w3.heap.size, 1, none⟩ = some (.int .i64 C) := by go_simp
  have z14 : (w4.alloc (.cells #[.int .i64 R, .int .i64 R, .bool true, .int .i64 0] 23)).cell? ⟨w3.heap.size, 2, none⟩ = some (.bool false) := by go_simp
  have z15 : (w4.alloc (.cells #[.int .i64 R, .int .i64 R, .bool true, .int .i64 0] 23)).cell? ⟨w3.heap.size, 3, none⟩ = some (.int .i64 0) := by go_simp
  have z16 : (w4.alloc (.cells #[.int .i64 R, .int .i64 R, .bool true, .int .i64 0] 23)).cell? ⟨w4.heap.size, 0, none⟩ = some (.int .i64 R) := by go_simp
  have z17 : (w4.alloc (.cells #[.int .i64 R, .int .i64 R, .bool true, .int .i64 0] 23)).cell? ⟨w4.heap.size, 1, none⟩ = some (.int .i64 R) := by go_simp
  have z18 : (w4.alloc (.cells #[.int .i64 R, .int .i64 R, .bool true, .int .i64 0] 23)).cell? ⟨w4.heap.size, 2, none⟩ = some (.bool true) := by go_simp
  have z19 : (w4.alloc (.cells #[.int .i64 R, .int .i64 R, .bool true, .int .i64 0] 23)).cell? ⟨w4.heap.size, 3, none⟩ = some (.int .i64 0) := by go_simp
  generalize (w4.alloc (.cells #[.int .i64 R, .int .i64 R, .bool true, .int .i64 0] 23)) = W0 at *
  clear hc1 hf1 hc2 hf2 hc3 hf3 hc4 hf4 hz1 hz2 hz3 hz4 hz5 hz6 hz7 hz8 hz9 hz10
  have x1 : w2.heap.size < W0.heap.size + 1 := by omega
  have x2 : w2.heap.size < W0.heap.size + 1 + 1 := by omega
  have x3 : w2.heap.size < W0.heap.size + 1 + 1 + 1 := by omega
  have x4 : w2.heap.size < W0.heap.size + 1 + 1 + 1 + 1 := by omega
  have x5 : w2.heap.size < W0.heap.size + 1 + 1 + 1 + 1 + 1 := by omega
  have x6 : w2.heap.size < W0.heap.size + 1 + 1 + 1 + 1 + 1 + 1 := by omega
  have x7 : w2.heap.size < W0.heap.size + 1 + 1 + 1 + 1 + 1 + 1 + 1 := by omega
  have x8 : w2.heap.size < W0.heap.size + 1 + 1 + 1 + 1 + 1 + 1 + 1 + 1 := by omega
  have x9 : w2.heap.size < W0.heap.size + 1 + 1 + 1 + 1 + 1 + 1 + 1 + 1 + 1 := by omega
  go_upto_region 6 with (fail)
  go_cut [9, 10] (fun s9 s10 wx => ∃ g : Nat, s9 = .pointer (some ⟨g, 0, none⟩) ∧ Up W0 wx ∧ W0.heap.size ≤ g ∧ g < wx.heap.size ∧ wx.cell? ⟨g, 1, none⟩ = some (.int .i64 B))
  case first =>
    go_region_held3 (fun w' => w'.cell? ⟨w2.heap.size, 0, none⟩ = some (.int .i64 B) ∧ w'.cell? ⟨w2.heap.size, 1, none⟩ = some (.int .i64 C) ∧ w'.cell? ⟨w2.heap.size, 2, none⟩ = some (.bool true) ∧ w'.cell? ⟨w2.heap.size, 3, none⟩ = some (.int .i64 P)) ((refine ⟨?_, ?_, ?_, ?_⟩ <;> go_simp)) (first | (go_at_call 10; refine (NX.out _).mono ?_; rintro e w' ⟨rfl, rfl⟩) | (go_at_call 8; refine (AD.out _).mono ?_; rintro e w' ⟨rfl, rfl⟩))
    all_goals (go_wp2_with fail; go_meet; exact ⟨_, rfl, by repeat (first | exact Up.refl _ | refine Up.alloc ?_ _ | refine Up.drew ?_), by (try simp) <;> (try omega), by (try simp) <;> (try omega), by go_simp⟩)
  case rest =>
    obtain ⟨g, rfl, hUx, hg0, hg1, hx⟩ := hcut
    have hUw := hU.trans hUx
    have yy0 : w.heap.size < wc.heap.size := by omega
    have zz0 : wc.cell? ⟨w.heap.size, 0, none⟩ = some (.int .i64 R) := (hUx.cell y0).trans z0
    have zz1 : wc.cell? ⟨w.heap.size, 1, none⟩ = some (.int .i64 C) := (hUx.cell y0).trans z1
    have zz2 : wc.cell? ⟨w.heap.size, 2, none⟩ = some (.bool true) := (hUx.cell y0).trans z2
    have zz3 : wc.cell? ⟨w.heap.size, 3, none⟩ = some (.int .i64 P) := (hUx.cell y0).trans z3
    have yy1 : w1.heap.size < wc.heap.size := by omega
    have zz4 : wc.cell? ⟨w1.heap.size, 0, none⟩ = some (.int .i64 R) := (hUx.cell y1).trans z4
    have zz5 : wc.cell? ⟨w1.heap.size, 1, none⟩ = some (.int .i64 C) := (hUx.cell y1).trans z5
    have zz6 : wc.cell? ⟨w1.heap.size, 2, none⟩ = some (.bool true) := (hUx.cell y1).trans z6
    have zz7 : wc.cell? ⟨w1.heap.size, 3, none⟩ = some (.int .i64 P) := (hUx.cell y1).trans z7
    have yy2 : w2.heap.size < wc.heap.size := by omega
    have zz8 : wc.cell? ⟨w2.heap.size, 0, none⟩ = some (.int .i64 B) := (hUx.cell y2).trans z8
    have zz9 : wc.cell? ⟨w2.heap.size, 1, none⟩ = some (.int .i64 C) := (hUx.cell y2).trans z9
    have zz10 : wc.cell? ⟨w2.heap.size, 2, none⟩ = some (.bool true) := (hUx.cell y2).trans z10
    have zz11 : wc.cell? ⟨w2.heap.size, 3, none⟩ = some (.int .i64 P) := (hUx.cell y2).trans z11
    have yy3 : w3.heap.size < wc.heap.size := by omega
    have zz12 : wc.cell? ⟨w3.heap.size, 0, none⟩ = some (.int .i64 R) := (hUx.cell y3).trans z12
    have zz13 : wc.cell? ⟨w3.heap.size, 1, none⟩ = some (.int .i64 C) := (hUx.cell y3).trans z13
    have zz14 : wc.cell? ⟨w3.heap.size, 2, none⟩ = some (.bool false) := (hUx.cell y3).trans z14
    have zz15 : wc.cell? ⟨w3.heap.size, 3, none⟩ = some (.int .i64 0) := (hUx.cell y3).trans z15
    have yy4 : w4.heap.size < wc.heap.size := by omega
    have zz16 : wc.cell? ⟨w4.heap.size, 0, none⟩ = some (.int .i64 R) := (hUx.cell y4).trans z16
    have zz17 : wc.cell? ⟨w4.heap.size, 1, none⟩ = some (.int .i64 R) := (hUx.cell y4).trans z17
    have zz18 : wc.cell? ⟨w4.heap.size, 2, none⟩ = some (.bool true) := (hUx.cell y4).trans z18
    have zz19 : wc.cell? ⟨w4.heap.size, 3, none⟩ = some (.int .i64 0) := (hUx.cell y4).trans z19
    clear z0 z1 z2 z3 z4 z5 z6 z7 z8 z9 z10 z11 z12 z13 z14 z15 z16 z17 z18 z19 y0 y1 y2 y3 y4 x1 x2 x3 x4 x5 x6 x7 x8 x9 NX AD WA WO WF WN hU
    go_wp2_with fail
    go_region_held3 (fun w' => Up wc w' ∧ ∀ b o, b < wc.heap.size → w'.cell? ⟨b, o, none⟩ = wc.cell? ⟨b, o, none⟩) (first | exact ⟨by assumption, by assumption⟩ | go_keep) (first | (go_at_call 11; refine (WT.out _).mono ?_; rintro e w7 ⟨rfl, hB3⟩; have hU7 : Up wc w7 := (by first | exact Up.trans (by assumption) hB3 | exact Up.trans (Up.drew (Up.refl wc)) hB3); have hc7 : ∀ b o, b < wc.heap.size → w7.cell? ⟨b, o, none⟩ = wc.cell? ⟨b, o, none⟩ := (fun b o hb => hU7.cell hb)) | (go_at_call 16; refine (read_any _ _ _ _ _).mono ?_; rintro e w7 ⟨rfl, hB3⟩; have hU7 : Up wc w7 := (by first | exact Up.trans (by assumption) hB3 | exact Up.trans (Up.drew (Up.refl wc)) hB3); have hc7 : ∀ b o, b < wc.heap.size → w7.cell? ⟨b, o, none⟩ = wc.cell? ⟨b, o, none⟩ := (fun b o hb => hU7.cell hb)))
    obtain ⟨hU8, hc8⟩ := ‹Up wc w7 ∧ _›
    go_wp2_with fail
    go_ret
    exact ⟨ret_bool rfl, hUw.trans hU8⟩
end Go.Proofs.Ytmgafhipaeicaaa
