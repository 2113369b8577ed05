/- The walk of the law PadTurns: it returns true. -/
import Derived.Test.YthaffmnoffjblaaS
import Derived.LoopN
namespace Go.Proofs.Ythaffmnoffjblaa
open Go.RowKit
attribute [local go_sem] andNot15 or240

/-- The number of the pad behind so many turns. -/
def vX (j : Nat) : Int := if j ≤ 5 then j else 5
theorem write_three (sel clr sec : Bool) (idx : Int) : ∃ s : Bool, ∀ w, Calls Try.prog 7 #[.agg #[.bool sel, .bool clr, .bool sec, .int .i64 idx], .int .i64 3] w fun e w' => e = .returned (.agg #[.bool true, .bool true, .bool s, .int .i64 0]) ∧ Up w w' :=
  ⟨_, fun w => write_any sel clr sec idx 3 true true (by decide +kernel) (by decide +kernel) w⟩
theorem write_sel (s : Bool) (w : World) : Calls Try.prog 7 #[.agg #[.bool true, .bool true, .bool s, .int .i64 0], .int .i64 1] w fun e w' => e = .returned (.agg #[.bool true, .bool false, .bool s, .int .i64 0]) ∧ Up w w' := by
  have h := write_any true true s 0 1 true false (by decide +kernel) (by decide +kernel) w
  rw [show vSec true s false = s from rfl, show vIdx true 0 true false = 0 by decide +kernel] at h
  exact h
theorem vX_rng (j : Nat) : 0 ≤ vX j ∧ vX j ≤ 5 := by unfold vX; split <;> omega
theorem write_off (s : Bool) (j : Nat) (w : World) : Calls Try.prog 7 #[.agg #[.bool true, .bool false, .bool s, .int .i64 (vX j)], .int .i64 0] w fun e w' => e = .returned (.agg #[.bool false, .bool false, .bool s, .int .i64 (vX j)]) ∧ Up w w' := by
  have h := write_any true false s (vX j) 0 false false (by decide +kernel) (by decide +kernel) w
  have := vX_rng j
  rw [show vSec false s false = s from rfl, show vIdx true (vX j) false false = vX j by unfold vIdx; rw [if_neg (by decide), if_neg (by decide), if_neg (by omega)]] at h
  exact h
theorem write_on (s : Bool) (j : Nat) (w : World) : Calls Try.prog 7 #[.agg #[.bool false, .bool false, .bool s, .int .i64 (vX j)], .int .i64 1] w fun e w' => e = .returned (.agg #[.bool true, .bool false, .bool s, .int .i64 (vX (j + 1))]) ∧ Up w w' := by
  have h := write_any false false s (vX j) 1 true false (by decide +kernel) (by decide +kernel) w
  have := vX_rng j
  rw [show vSec false s false = s from rfl, show vIdx false (vX j) true false = vX (j + 1) by
    unfold vIdx; rw [if_neg (by decide), if_pos (by decide), if_neg (by omega)]; unfold vX; split <;> split <;> omega] at h
  exact h
theorem read_at0 (k0 k1 k2 k3 k4 : Int) (sl sec : Bool) (w : World) :
    Calls Try.prog 6 #[.agg #[.bool sl, .bool false, .bool sec, .int .i64 0], .agg #[.int .i64 k0, .bool false, .int .i64 k1, .bool false, .int .i64 k2, .bool false, .int .i64 k3, .bool false, .int .i64 k4, .bool false], .bool false] w fun e w' => e = .returned (.int .i64 (if sl then 255 - k0 / 16 % 16 else 255 - k0 % 16)) ∧ Up w w' := by
  have h : vRd sl sec 0 k0 false k1 false k2 false k3 false k4 false false = (if sl then 255 - k0 / 16 % 16 else 255 - k0 % 16) := by
    cases sl <;> simp [vRd, vBase, vPr] <;> omega
  rw [← h]
  exact read_any _ _ _ _ _ _ _ _ _ _ _ _ _ _ _ w
theorem read_at1 (k0 k1 k2 k3 k4 : Int) (sl sec : Bool) (w : World) :
    Calls Try.prog 6 #[.agg #[.bool sl, .bool false, .bool sec, .int .i64 1], .agg #[.int .i64 k0, .bool false, .int .i64 k1, .bool false, .int .i64 k2, .bool false, .int .i64 k3, .bool false, .int .i64 k4, .bool false], .bool false] w fun e w' => e = .returned (.int .i64 (if sl then 255 - k1 / 16 % 16 else 255 - k1 % 16)) ∧ Up w w' := by
  have h : vRd sl sec 1 k0 false k1 false k2 false k3 false k4 false false = (if sl then 255 - k1 / 16 % 16 else 255 - k1 % 16) := by
    cases sl <;> simp [vRd, vBase, vPr] <;> omega
  rw [← h]
  exact read_any _ _ _ _ _ _ _ _ _ _ _ _ _ _ _ w
theorem read_at2 (k0 k1 k2 k3 k4 : Int) (sl sec : Bool) (w : World) :
    Calls Try.prog 6 #[.agg #[.bool sl, .bool false, .bool sec, .int .i64 2], .agg #[.int .i64 k0, .bool false, .int .i64 k1, .bool false, .int .i64 k2, .bool false, .int .i64 k3, .bool false, .int .i64 k4, .bool false], .bool false] w fun e w' => e = .returned (.int .i64 (if sl then 255 - k2 / 16 % 16 else 255 - k2 % 16)) ∧ Up w w' := by
  have h : vRd sl sec 2 k0 false k1 false k2 false k3 false k4 false false = (if sl then 255 - k2 / 16 % 16 else 255 - k2 % 16) := by
    cases sl <;> simp [vRd, vBase, vPr] <;> omega
  rw [← h]
  exact read_any _ _ _ _ _ _ _ _ _ _ _ _ _ _ _ w
theorem read_at3 (k0 k1 k2 k3 k4 : Int) (sl sec : Bool) (w : World) :
    Calls Try.prog 6 #[.agg #[.bool sl, .bool false, .bool sec, .int .i64 3], .agg #[.int .i64 k0, .bool false, .int .i64 k1, .bool false, .int .i64 k2, .bool false, .int .i64 k3, .bool false, .int .i64 k4, .bool false], .bool false] w fun e w' => e = .returned (.int .i64 (if sl then 255 - k3 / 16 % 16 else 255 - k3 % 16)) ∧ Up w w' := by
  have h : vRd sl sec 3 k0 false k1 false k2 false k3 false k4 false false = (if sl then 255 - k3 / 16 % 16 else 255 - k3 % 16) := by
    cases sl <;> simp [vRd, vBase, vPr] <;> omega
  rw [← h]
  exact read_any _ _ _ _ _ _ _ _ _ _ _ _ _ _ _ w
theorem read_at4 (k0 k1 k2 k3 k4 : Int) (sl sec : Bool) (w : World) :
    Calls Try.prog 6 #[.agg #[.bool sl, .bool false, .bool sec, .int .i64 4], .agg #[.int .i64 k0, .bool false, .int .i64 k1, .bool false, .int .i64 k2, .bool false, .int .i64 k3, .bool false, .int .i64 k4, .bool false], .bool false] w fun e w' => e = .returned (.int .i64 (if sl then 255 - k4 / 16 % 16 else 255 - k4 % 16)) ∧ Up w w' := by
  have h : vRd sl sec 4 k0 false k1 false k2 false k3 false k4 false false = (if sl then 255 - k4 / 16 % 16 else 255 - k4 % 16) := by
    cases sl <;> simp [vRd, vBase, vPr] <;> omega
  rw [← h]
  exact read_any _ _ _ _ _ _ _ _ _ _ _ _ _ _ _ w
theorem read_at5 (k0 k1 k2 k3 k4 : Int) (sl sec : Bool) (w : World) :
    Calls Try.prog 6 #[.agg #[.bool sl, .bool false, .bool sec, .int .i64 5], .agg #[.int .i64 k0, .bool false, .int .i64 k1, .bool false, .int .i64 k2, .bool false, .int .i64 k3, .bool false, .int .i64 k4, .bool false], .bool false] w fun e w' => e = .returned (.int .i64 255) ∧ Up w w' := by
  have h : vRd sl sec 5 k0 false k1 false k2 false k3 false k4 false false = 255 := by
    cases sl <;> simp [vRd, vBase]
  rw [← h]
  exact read_any _ _ _ _ _ _ _ _ _ _ _ _ _ _ _ w
theorem read_at6 (k0 k1 k2 k3 k4 : Int) (sl sec : Bool) (w : World) :
    Calls Try.prog 6 #[.agg #[.bool sl, .bool false, .bool sec, .int .i64 5], .agg #[.int .i64 k0, .bool false, .int .i64 k1, .bool false, .int .i64 k2, .bool false, .int .i64 k3, .bool false, .int .i64 k4, .bool false], .bool false] w fun e w' => e = .returned (.int .i64 255) ∧ Up w w' := by
  have h : vRd sl sec 5 k0 false k1 false k2 false k3 false k4 false false = 255 := by
    cases sl <;> simp [vRd, vBase]
  rw [← h]
  exact read_any _ _ _ _ _ _ _ _ _ _ _ _ _ _ _ w

set_option maxHeartbeats 8000000 in
set_option maxRecDepth 100000 in
theorem walk_padTurns (c0 : List Value) (f0 : OP.FitsAll [false, false, false, true] c0) (c1 : List Value) (f1 : OP.FitsAll [true, true, true, true, true] c1) (k : Int) (_hk : -9223372036854775808 ≤ k ∧ k ≤ 9223372036854775807) (w : World) :
    Calls Try.prog 4 #[.agg ⟨c0⟩, .agg ⟨c1⟩, .int .i64 k] w fun e w' => e = .returned (.bool true) ∧ Below w.heap.size w w' := by
  obtain ⟨sel, r0, rfl, g1⟩ := OP.cons_bool f0
  obtain ⟨clr, r1, rfl, g2⟩ := OP.cons_bool g1
  obtain ⟨sec, r2, rfl, g3⟩ := OP.cons_bool g2
  obtain ⟨idx, r3, rfl, _, g4⟩ := OP.cons_int g3
  obtain rfl := OP.none_left g4
  have e0 := f1
  obtain ⟨k0, q0, rfl, _, e1⟩ := OP.cons_int e0
  obtain ⟨k1, q1, rfl, _, e2⟩ := OP.cons_int e1
  obtain ⟨k2, q2, rfl, _, e3⟩ := OP.cons_int e2
  obtain ⟨k3, q3, rfl, _, e4⟩ := OP.cons_int e3
  obtain ⟨k4, q4, rfl, _, e5⟩ := OP.cons_int e4
  obtain rfl := OP.none_left e5
  clear f0 f1 g1 g2 g3 g4 e0 e1 e2 e3 e4 e5
  have tm := BM.tmod_cases k 7 (by decide)
  obtain ⟨T, hT⟩ : ∃ x, k.tmod 7 = x := ⟨_, rfl⟩
  rw [hT] at tm
  obtain ⟨N, hN, hN7⟩ : ∃ N : Nat, (T + 7).tmod 7 = N ∧ N < 7 := by
    have h : (T + 7).tmod 7 = (T + 7) % 7 := Int.tmod_eq_emod_of_nonneg (by omega)
    exact ⟨((T + 7) % 7).toNat, by rw [h]; omega, by omega⟩
  have T0 : -7 < T := by omega
  have T1 : T < 7 := by omega
  clear tm
  obtain ⟨s, hS⟩ := write_three sel clr sec idx
  have WS := Lib.hid hS
  clear hS
  have W1 := Lib.hid (fun s w => write_sel s w)
  have W2 := Lib.hid (fun s j w => write_off s j w)
  have W3 := Lib.hid (fun s j w => write_on s j w)
  go_enter Try.func4, Try.ntmps4
  go_wp2_with fail
  refine wp_loop_rounds 6 ?_
  rw [rounds_succ]; go_wp2_with fail
  rw [rounds_succ]; go_wp2_with fail
  rw [rounds_succ]; go_wp2_with fail
  rw [rounds_succ]; go_wp2_with fail
  rw [rounds_succ]; go_wp2_with fail
  rw [rounds_succ]; go_wp2_with fail
  refine (WS.out _).mono ?_; rintro e w1 ⟨rfl, hU1⟩
  obtain ⟨hc1, hf1, _⟩ := hU1.facts
  have hz1 : w.heap.size + 1 + 1 < w1.heap.size := by have := hU1.size; simp at this; omega
  go_wp2_with fail
  refine (W1.out _ _).mono ?_; rintro e w2 ⟨rfl, hU2⟩
  obtain ⟨hc2, hf2, _⟩ := hU2.facts
  have hz2 : w.heap.size + 1 + 1 < w2.heap.size := by have := hU2.size; omega
  have hz3 : w.heap.size + 1 < w2.heap.size := by omega
  have hz4 : w.heap.size < w2.heap.size := by omega
  have hz5 : w.heap.size + 1 < w1.heap.size := by omega
  have hz6 : w.heap.size < w1.heap.size := by omega
  have a0 : w2.cell? ⟨w.heap.size, 0, none⟩ = some (.bool sel) := by go_simp
  have a1 : w2.cell? ⟨w.heap.size, 1, none⟩ = some (.bool clr) := by go_simp
  have a2 : w2.cell? ⟨w.heap.size, 2, none⟩ = some (.bool sec) := by go_simp
  have a3 : w2.cell? ⟨w.heap.size, 3, none⟩ = some (.int .i64 idx) := by go_simp
  have hBB : Below w.heap.size w w2 := (((((Up.refl w).alloc _).alloc _).alloc _).trans hU1).trans hU2
  go_wp2_with fail
  go_loopw [9] (fun i wr => ∃ j : Nat, j ≤ N ∧ i = .int .i64 j ∧ Below w.heap.size w wr ∧ w.heap.size + 1 + 1 < wr.heap.size ∧ (∀ o, wr.frozen? ⟨w.heap.size, o, none⟩ = false)
      ∧ wr.cell? ⟨w.heap.size, 0, none⟩ = some (.bool true) ∧ wr.cell? ⟨w.heap.size, 1, none⟩ = some (.bool false) ∧ wr.cell? ⟨w.heap.size, 2, none⟩ = some (.bool s) ∧ wr.cell? ⟨w.heap.size, 3, none⟩ = some (.int .i64 (vX j))
      ∧ wr.cell? ⟨w.heap.size + 1, 0, none⟩ = some (.int .i64 k0)
      ∧ wr.cell? ⟨w.heap.size + 1, 1, none⟩ = some (.int .i64 k1)
      ∧ wr.cell? ⟨w.heap.size + 1, 2, none⟩ = some (.int .i64 k2)
      ∧ wr.cell? ⟨w.heap.size + 1, 3, none⟩ = some (.int .i64 k3)
      ∧ wr.cell? ⟨w.heap.size + 1, 4, none⟩ = some (.int .i64 k4)
      ∧ wr.cell? ⟨w.heap.size + 1 + 1, 0, none⟩ = some (.int .i64 k0) ∧ wr.cell? ⟨w.heap.size + 1 + 1, 1, none⟩ = some (.bool false) ∧ wr.cell? ⟨w.heap.size + 1 + 1, 2, none⟩ = some (.int .i64 k1) ∧ wr.cell? ⟨w.heap.size + 1 + 1, 3, none⟩ = some (.bool false) ∧ wr.cell? ⟨w.heap.size + 1 + 1, 4, none⟩ = some (.int .i64 k2) ∧ wr.cell? ⟨w.heap.size + 1 + 1, 5, none⟩ = some (.bool false) ∧ wr.cell? ⟨w.heap.size + 1 + 1, 6, none⟩ = some (.int .i64 k3) ∧ wr.cell? ⟨w.heap.size + 1 + 1, 7, none⟩ = some (.bool false) ∧ wr.cell? ⟨w.heap.size + 1 + 1, 8, none⟩ = some (.int .i64 k4) ∧ wr.cell? ⟨w.heap.size + 1 + 1, 9, none⟩ = some (.bool false)) (fun i _ => N - (intOf i).toNat)
  case atStart => exact ⟨0, by omega, rfl, (((hBB.setCell (by simp) _).setCell (by simp) _).setCell (by simp) _).setCell (by simp) _, by simp; omega, fun o => by go_simp, (by go_simp; exact World.cell?_setCell_same _ _ _ a0), (by go_simp; exact World.cell?_setCell_same _ _ _ ((World.cell?_setCell_other _ _ _ _ (by simp)).trans a1)), (by go_simp; exact World.cell?_setCell_same _ _ _ ((World.cell?_setCell_other _ _ _ _ (by simp)).trans ((World.cell?_setCell_other _ _ _ _ (by simp)).trans a2))), (by rw [show vX 0 = 0 by decide]; go_simp; exact World.cell?_setCell_same _ _ _ ((World.cell?_setCell_other _ _ _ _ (by simp)).trans ((World.cell?_setCell_other _ _ _ _ (by simp)).trans ((World.cell?_setCell_other _ _ _ _ (by simp)).trans a3)))), by go_simp, by go_simp, by go_simp, by go_simp, by go_simp, by go_simp, by go_simp, by go_simp, by go_simp, by go_simp, by go_simp, by go_simp, by go_simp, by go_simp, by go_simp⟩
  case round =>
    clear a0 a1 a2 a3 hc1 hf1 hc2 hf2 hz1 hz2 hz3 hz4 hz5 hz6 hBB hU1 hU2
    obtain ⟨j, hj, rfl, hB, hz, hfz, q0, q1, q2, q3, m0, m1, m2, m3, m4, p0, p1, p2, p3, p4, p5, p6, p7, p8, p9⟩ := hrel
    by_cases hlt : j < N
    · go_wp2_with fail
      refine (W2.out _ _ _).mono ?_; rintro e w3 ⟨rfl, hU3⟩
      obtain ⟨hc3, hf3, hz3⟩ := hU3.facts
      go_wp2_with fail
      refine (W3.out _ _ _).mono ?_; rintro e w4 ⟨rfl, hU4⟩
      obtain ⟨hc4, hf4, hz4⟩ := hU4.facts
      have hz5 : w.heap.size + 1 + 1 < w3.heap.size := by omega
      have hz6 : w.heap.size + 1 < w3.heap.size := by omega
      have hz7 : w.heap.size < w3.heap.size := by omega
      have hz8 : w.heap.size < wr.heap.size := by omega
      have hz9 : w.heap.size + 1 < wr.heap.size := by omega
      have hB4 : Below w.heap.size w w4 := (hB.trans (Below.mono hU3 (by omega))).trans (Below.mono hU4 (by omega))
      go_wp2_with fail
      go_roundw
      case rel => exact ⟨j + 1, by omega, rfl, (((hB4.setCell (by simp) _).setCell (by simp) _).setCell (by simp) _).setCell (by simp) _, by simp; omega, fun o => by go_simp, by go_simp, by go_simp, by go_simp, by go_simp, by go_simp, by go_simp, by go_simp, by go_simp, by go_simp, by go_simp, by go_simp, by go_simp, by go_simp, by go_simp, by go_simp, by go_simp, by go_simp, by go_simp, by go_simp⟩
      case measure => simp [intOf]; omega
    · obtain rfl : j = N := by omega
      have hB5 := hB
      clear hB hfz
      have y0 : w.heap.size < wr.heap.size := by omega
      have y1 : w.heap.size + 1 < wr.heap.size := by omega
      have hcs : j = 0 ∨ j = 1 ∨ j = 2 ∨ j = 3 ∨ j = 4 ∨ j = 5 ∨ j = 6 := by omega
      rcases hcs with rfl | rfl | rfl | rfl | rfl | rfl | rfl
      · rw [show vX 0 = 0 by decide] at q3
        have HR := Lib.hid (fun sl w => read_at0 k0 k1 k2 k3 k4 sl s w)
        have HW := Lib.hid (fun w => (show vX 0 = 0 by decide) ▸ write_off s 0 w)
        go_wp2_with fail
        go_region_held3 (fun w' => Up wr w' ∧ ∀ b o, b < wr.heap.size → w'.cell? ⟨b, o, none⟩ = wr.cell? ⟨b, o, none⟩) (first | exact ⟨by assumption, by assumption⟩ | go_keep) (first | (go_at_call 6; refine (HR.out _ _).mono ?_; rintro e w3 ⟨rfl, hB3⟩; have hU3 : Up wr w3 := (by first | exact Up.trans (by assumption) hB3 | exact Up.trans (Up.drew (Up.refl wr)) hB3); have hc3 : ∀ b o, b < wr.heap.size → w3.cell? ⟨b, o, none⟩ = wr.cell? ⟨b, o, none⟩ := (fun b o hb => hU3.cell hb)) | (go_at_call 7; refine (HW.out _).mono ?_; rintro e w3 ⟨rfl, hB3⟩; have hU3 : Up wr w3 := (by first | exact Up.trans (by assumption) hB3 | exact Up.trans (Up.drew (Up.refl wr)) hB3); have hc3 : ∀ b o, b < wr.heap.size → w3.cell? ⟨b, o, none⟩ = wr.cell? ⟨b, o, none⟩ := (fun b o hb => hU3.cell hb)))
        obtain ⟨hU4, hc4⟩ := ‹Up wr w3 ∧ _›
        have y2 : w.heap.size + 1 < w3.heap.size := by have := hU4.size; omega
        go_wp2_with fail
        go_ret
        exact ⟨ret_bool rfl, hB5.trans (Below.mono hU4 (by omega))⟩
      · rw [show vX 1 = 1 by decide] at q3
        have HR := Lib.hid (fun sl w => read_at1 k0 k1 k2 k3 k4 sl s w)
        have HW := Lib.hid (fun w => (show vX 1 = 1 by decide) ▸ write_off s 1 w)
        go_wp2_with fail
        go_region_held3 (fun w' => Up wr w' ∧ ∀ b o, b < wr.heap.size → w'.cell? ⟨b, o, none⟩ = wr.cell? ⟨b, o, none⟩) (first | exact ⟨by assumption, by assumption⟩ | go_keep) (first | (go_at_call 6; refine (HR.out _ _).mono ?_; rintro e w3 ⟨rfl, hB3⟩; have hU3 : Up wr w3 := (by first | exact Up.trans (by assumption) hB3 | exact Up.trans (Up.drew (Up.refl wr)) hB3); have hc3 : ∀ b o, b < wr.heap.size → w3.cell? ⟨b, o, none⟩ = wr.cell? ⟨b, o, none⟩ := (fun b o hb => hU3.cell hb)) | (go_at_call 7; refine (HW.out _).mono ?_; rintro e w3 ⟨rfl, hB3⟩; have hU3 : Up wr w3 := (by first | exact Up.trans (by assumption) hB3 | exact Up.trans (Up.drew (Up.refl wr)) hB3); have hc3 : ∀ b o, b < wr.heap.size → w3.cell? ⟨b, o, none⟩ = wr.cell? ⟨b, o, none⟩ := (fun b o hb => hU3.cell hb)))
        obtain ⟨hU4, hc4⟩ := ‹Up wr w3 ∧ _›
        have y2 : w.heap.size + 1 < w3.heap.size := by have := hU4.size; omega
        go_wp2_with fail
        go_ret
        exact ⟨ret_bool rfl, hB5.trans (Below.mono hU4 (by omega))⟩
      · rw [show vX 2 = 2 by decide] at q3
        have HR := Lib.hid (fun sl w => read_at2 k0 k1 k2 k3 k4 sl s w)
        have HW := Lib.hid (fun w => (show vX 2 = 2 by decide) ▸ write_off s 2 w)
        go_wp2_with fail
        go_region_held3 (fun w' => Up wr w' ∧ ∀ b o, b < wr.heap.size → w'.cell? ⟨b, o, none⟩ = wr.cell? ⟨b, o, none⟩) (first | exact ⟨by assumption, by assumption⟩ | go_keep) (first | (go_at_call 6; refine (HR.out _ _).mono ?_; rintro e w3 ⟨rfl, hB3⟩; have hU3 : Up wr w3 := (by first | exact Up.trans (by assumption) hB3 | exact Up.trans (Up.drew (Up.refl wr)) hB3); have hc3 : ∀ b o, b < wr.heap.size → w3.cell? ⟨b, o, none⟩ = wr.cell? ⟨b, o, none⟩ := (fun b o hb => hU3.cell hb)) | (go_at_call 7; refine (HW.out _).mono ?_; rintro e w3 ⟨rfl, hB3⟩; have hU3 : Up wr w3 := (by first | exact Up.trans (by assumption) hB3 | exact Up.trans (Up.drew (Up.refl wr)) hB3); have hc3 : ∀ b o, b < wr.heap.size → w3.cell? ⟨b, o, none⟩ = wr.cell? ⟨b, o, none⟩ := (fun b o hb => hU3.cell hb)))
        obtain ⟨hU4, hc4⟩ := ‹Up wr w3 ∧ _›
        have y2 : w.heap.size + 1 < w3.heap.size := by have := hU4.size; omega
        go_wp2_with fail
        go_ret
        exact ⟨ret_bool rfl, hB5.trans (Below.mono hU4 (by omega))⟩
      · rw [show vX 3 = 3 by decide] at q3
        have HR := Lib.hid (fun sl w => read_at3 k0 k1 k2 k3 k4 sl s w)
        have HW := Lib.hid (fun w => (show vX 3 = 3 by decide) ▸ write_off s 3 w)
        go_wp2_with fail
        go_region_held3 (fun w' => Up wr w' ∧ ∀ b o, b < wr.heap.size → w'.cell? ⟨b, o, none⟩ = wr.cell? ⟨b, o, none⟩) (first | exact ⟨by assumption, by assumption⟩ | go_keep) (first | (go_at_call 6; refine (HR.out _ _).mono ?_; rintro e w3 ⟨rfl, hB3⟩; have hU3 : Up wr w3 := (by first | exact Up.trans (by assumption) hB3 | exact Up.trans (Up.drew (Up.refl wr)) hB3); have hc3 : ∀ b o, b < wr.heap.size → w3.cell? ⟨b, o, none⟩ = wr.cell? ⟨b, o, none⟩ := (fun b o hb => hU3.cell hb)) | (go_at_call 7; refine (HW.out _).mono ?_; rintro e w3 ⟨rfl, hB3⟩; have hU3 : Up wr w3 := (by first | exact Up.trans (by assumption) hB3 | exact Up.trans (Up.drew (Up.refl wr)) hB3); have hc3 : ∀ b o, b < wr.heap.size → w3.cell? ⟨b, o, none⟩ = wr.cell? ⟨b, o, none⟩ := (fun b o hb => hU3.cell hb)))
        obtain ⟨hU4, hc4⟩ := ‹Up wr w3 ∧ _›
        have y2 : w.heap.size + 1 < w3.heap.size := by have := hU4.size; omega
        go_wp2_with fail
        go_ret
        exact ⟨ret_bool rfl, hB5.trans (Below.mono hU4 (by omega))⟩
      · rw [show vX 4 = 4 by decide] at q3
        have HR := Lib.hid (fun sl w => read_at4 k0 k1 k2 k3 k4 sl s w)
        have HW := Lib.hid (fun w => (show vX 4 = 4 by decide) ▸ write_off s 4 w)
        go_wp2_with fail
        go_region_held3 (fun w' => Up wr w' ∧ ∀ b o, b < wr.heap.size → w'.cell? ⟨b, o, none⟩ = wr.cell? ⟨b, o, none⟩) (first | exact ⟨by assumption, by assumption⟩ | go_keep) (first | (go_at_call 6; refine (HR.out _ _).mono ?_; rintro e w3 ⟨rfl, hB3⟩; have hU3 : Up wr w3 := (by first | exact Up.trans (by assumption) hB3 | exact Up.trans (Up.drew (Up.refl wr)) hB3); have hc3 : ∀ b o, b < wr.heap.size → w3.cell? ⟨b, o, none⟩ = wr.cell? ⟨b, o, none⟩ := (fun b o hb => hU3.cell hb)) | (go_at_call 7; refine (HW.out _).mono ?_; rintro e w3 ⟨rfl, hB3⟩; have hU3 : Up wr w3 := (by first | exact Up.trans (by assumption) hB3 | exact Up.trans (Up.drew (Up.refl wr)) hB3); have hc3 : ∀ b o, b < wr.heap.size → w3.cell? ⟨b, o, none⟩ = wr.cell? ⟨b, o, none⟩ := (fun b o hb => hU3.cell hb)))
        obtain ⟨hU4, hc4⟩ := ‹Up wr w3 ∧ _›
        have y2 : w.heap.size + 1 < w3.heap.size := by have := hU4.size; omega
        go_wp2_with fail
        go_ret
        exact ⟨ret_bool rfl, hB5.trans (Below.mono hU4 (by omega))⟩
      · rw [show vX 5 = 5 by decide] at q3
        have HR := Lib.hid (fun sl w => read_at5 k0 k1 k2 k3 k4 sl s w)
        have HW := Lib.hid (fun w => (show vX 5 = 5 by decide) ▸ write_off s 5 w)
        go_wp2_with fail
        go_region_held3 (fun w' => Up wr w' ∧ ∀ b o, b < wr.heap.size → w'.cell? ⟨b, o, none⟩ = wr.cell? ⟨b, o, none⟩) (first | exact ⟨by assumption, by assumption⟩ | go_keep) (first | (go_at_call 6; refine (HR.out _ _).mono ?_; rintro e w3 ⟨rfl, hB3⟩; have hU3 : Up wr w3 := (by first | exact Up.trans (by assumption) hB3 | exact Up.trans (Up.drew (Up.refl wr)) hB3); have hc3 : ∀ b o, b < wr.heap.size → w3.cell? ⟨b, o, none⟩ = wr.cell? ⟨b, o, none⟩ := (fun b o hb => hU3.cell hb)) | (go_at_call 7; refine (HW.out _).mono ?_; rintro e w3 ⟨rfl, hB3⟩; have hU3 : Up wr w3 := (by first | exact Up.trans (by assumption) hB3 | exact Up.trans (Up.drew (Up.refl wr)) hB3); have hc3 : ∀ b o, b < wr.heap.size → w3.cell? ⟨b, o, none⟩ = wr.cell? ⟨b, o, none⟩ := (fun b o hb => hU3.cell hb)))
        obtain ⟨hU4, hc4⟩ := ‹Up wr w3 ∧ _›
        have y2 : w.heap.size + 1 < w3.heap.size := by have := hU4.size; omega
        go_wp2_with fail
        go_ret
        exact ⟨ret_bool rfl, hB5.trans (Below.mono hU4 (by omega))⟩
      · rw [show vX 6 = 5 by decide] at q3
        have HR := Lib.hid (fun sl w => read_at6 k0 k1 k2 k3 k4 sl s w)
        have HW := Lib.hid (fun w => (show vX 6 = 5 by decide) ▸ write_off s 6 w)
        go_wp2_with fail
        go_region_held3 (fun w' => Up wr w' ∧ ∀ b o, b < wr.heap.size → w'.cell? ⟨b, o, none⟩ = wr.cell? ⟨b, o, none⟩) (first | exact ⟨by assumption, by assumption⟩ | go_keep) (first | (go_at_call 6; refine (HR.out _ _).mono ?_; rintro e w3 ⟨rfl, hB3⟩; have hU3 : Up wr w3 := (by first | exact Up.trans (by assumption) hB3 | exact Up.trans (Up.drew (Up.refl wr)) hB3); have hc3 : ∀ b o, b < wr.heap.size → w3.cell? ⟨b, o, none⟩ = wr.cell? ⟨b, o, none⟩ := (fun b o hb => hU3.cell hb)) | (go_at_call 7; refine (HW.out _).mono ?_; rintro e w3 ⟨rfl, hB3⟩; have hU3 : Up wr w3 := (by first | exact Up.trans (by assumption) hB3 | exact Up.trans (Up.drew (Up.refl wr)) hB3); have hc3 : ∀ b o, b < wr.heap.size → w3.cell? ⟨b, o, none⟩ = wr.cell? ⟨b, o, none⟩ := (fun b o hb => hU3.cell hb)))
        obtain ⟨hU4, hc4⟩ := ‹Up wr w3 ∧ _›
        have y2 : w.heap.size + 1 < w3.heap.size := by have := hU4.size; omega
        go_wp2_with fail
        go_ret
        exact ⟨ret_bool rfl, hB5.trans (Below.mono hU4 (by omega))⟩
end Go.Proofs.Ythaffmnoffjblaa
