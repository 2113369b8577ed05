/- The walk of the law MprBack: it returns true. -/
import Derived.Test.YthgcagnfjldlfaaB
import Derived.Test.YthgcagnfjldlfaaOP
import Derived.BigQuiet
import Derived.Lib.Hide
namespace Go.Proofs.Ythgcagnfjldlfaa
open Go.RowKit
attribute [local go_sem] BM.and7 BM.and255

set_option maxHeartbeats 8000000 in
set_option maxRecDepth 100000 in
theorem back_0 (F : Nat → Int) (k : Int) (hk : k % 8 = 0) (b : Int) (w : World) :
    Calls Try.prog 4 #[.agg #[.int .i64 (F 0), .int .i64 (F 1), .int .i64 (F 2), .int .i64 (F 3), .int .i64 (F 4), .int .i64 (F 5), .int .i64 (F 6), .int .i64 (F 7)], .int .i64 k, .int .i64 b] w fun e w' => e = .returned (.bool true) ∧ Below w.heap.size w w' := by
  have HT := Lib.hid (show ∀ w, Calls Try.prog 8 #[.agg #[.int .i64 (F 0), .int .i64 (F 1), .int .i64 (F 2), .int .i64 (F 3), .int .i64 (F 4), .int .i64 (F 5), .int .i64 (F 6), .int .i64 (F 7)], .int .i64 1, .int .i64 b] w fun e w' => e = .returned (.agg #[.int .i64 (b % 256), .int .i64 (F 1), .int .i64 (F 2), .int .i64 (F 3), .int .i64 (F 4), .int .i64 (F 5), .int .i64 (F 6), .int .i64 (F 7)]) ∧ Up w w' from fun w => by
    have h := tam_any F 1 b w
    rw [show vTam F 1 b 0 = b % 256 by unfold vTam; rw [if_pos (by decide +kernel)]] at h
    rw [show vTam F 1 b 1 = F 1 by unfold vTam; rw [if_neg (by decide +kernel)]] at h
    rw [show vTam F 1 b 2 = F 2 by unfold vTam; rw [if_neg (by decide +kernel)]] at h
    rw [show vTam F 1 b 3 = F 3 by unfold vTam; rw [if_neg (by decide +kernel)]] at h
    rw [show vTam F 1 b 4 = F 4 by unfold vTam; rw [if_neg (by decide +kernel)]] at h
    rw [show vTam F 1 b 5 = F 5 by unfold vTam; rw [if_neg (by decide +kernel)]] at h
    rw [show vTam F 1 b 6 = F 6 by unfold vTam; rw [if_neg (by decide +kernel)]] at h
    rw [show vTam F 1 b 7 = F 7 by unfold vTam; rw [if_neg (by decide +kernel)]] at h
    exact h)
  have HA := Lib.hid (show ∀ w, Calls Try.prog 9 #[.agg #[.int .i64 (b % 256), .int .i64 (F 1), .int .i64 (F 2), .int .i64 (F 3), .int .i64 (F 4), .int .i64 (F 5), .int .i64 (F 6), .int .i64 (F 7)], .int .i64 1, .int .i64 0] w fun e w' => e = .returned (.int .i64 (b % 256)) ∧ Up w w' from fun w => by
    have h := tma_any (fun i => match i with | 0 => b % 256 | 1 => F 1 | 2 => F 2 | 3 => F 3 | 4 => F 4 | 5 => F 5 | 6 => F 6 | _ => F 7) 1 0 w
    rw [show vTma (fun i => match i with | 0 => b % 256 | 1 => F 1 | 2 => F 2 | 3 => F 3 | 4 => F 4 | 5 => F 5 | 6 => F 6 | _ => F 7) 1 0 = b % 256 by unfold vTma; rw [if_pos (by decide +kernel)]; show b % 256 % 256 = b % 256; omega] at h
    exact h)
  have HZ := Lib.hid (show ∀ w, Calls Try.prog 9 #[.agg #[.int .i64 (b % 256), .int .i64 (F 1), .int .i64 (F 2), .int .i64 (F 3), .int .i64 (F 4), .int .i64 (F 5), .int .i64 (F 6), .int .i64 (F 7)], .int .i64 0, .int .i64 77] w fun e w' => e = .returned (.int .i64 77) ∧ Up w w' from fun w => by
    have h := tma_any (fun i => match i with | 0 => b % 256 | 1 => F 1 | 2 => F 2 | 3 => F 3 | 4 => F 4 | 5 => F 5 | 6 => F 6 | _ => F 7) 0 77 w
    rw [show vTma (fun i => match i with | 0 => b % 256 | 1 => F 1 | 2 => F 2 | 3 => F 3 | 4 => F 4 | 5 => F 5 | 6 => F 6 | _ => F 7) 0 77 = 77 by unfold vTma; rw [if_neg (by decide +kernel)]; rw [if_neg (by decide +kernel)]; rw [if_neg (by decide +kernel)]; rw [if_neg (by decide +kernel)]; rw [if_neg (by decide +kernel)]; rw [if_neg (by decide +kernel)]; rw [if_neg (by decide +kernel)]; rw [if_neg (by decide +kernel)]; rfl] at h
    exact h)
  have HP := Lib.hid (show ∀ w, Calls Try.prog 7 #[.agg #[.int .i64 (b % 256), .int .i64 (F 1), .int .i64 (F 2), .int .i64 (F 3), .int .i64 (F 4), .int .i64 (F 5), .int .i64 (F 6), .int .i64 (F 7)], .int .i64 0] w fun e w' => e = .returned (.int .i64 (b % 256 * 8192)) ∧ Up w w' from fun w => by
    have h := phys_any (fun i => match i with | 0 => b % 256 | 1 => F 1 | 2 => F 2 | 3 => F 3 | 4 => F 4 | 5 => F 5 | 6 => F 6 | _ => F 7) 0 w
    rw [show vPhys (fun i => match i with | 0 => b % 256 | 1 => F 1 | 2 => F 2 | 3 => F 3 | 4 => F 4 | 5 => F 5 | 6 => F 6 | _ => F 7) 0 = b % 256 * 8192 by show b % 256 % 256 * 8192 + 0 = b % 256 * 8192; omega] at h
    exact h)
  have hb0 : 0 ≤ b % 256 := by omega
  have hb1 : b % 256 ≤ 255 := by omega
  go_enter Try.func4, Try.ntmps4
  go_wp2_with fail
  refine (HT.out _).mono ?_; rintro e w1 ⟨rfl, hU1⟩
  obtain ⟨hc1, hf1, _⟩ := hU1.facts
  have hz1 : w.heap.size < w1.heap.size := by have := hU1.size; simp at this; omega
  go_wp2_with fail
  refine wp_loop_rounds 9 ?_
  rw [rounds_succ]; go_wp2_with fail
  go_quiet (fail)
  go_wp2_with fail
  rw [rounds_succ]; go_wp2_with fail
  go_quiet (fail)
  go_wp2_with fail
  rw [rounds_succ]; go_wp2_with fail
  go_quiet (fail)
  go_wp2_with fail
  rw [rounds_succ]; go_wp2_with fail
  go_quiet (fail)
  go_wp2_with fail
  rw [rounds_succ]; go_wp2_with fail
  go_quiet (fail)
  go_wp2_with fail
  rw [rounds_succ]; go_wp2_with fail
  go_quiet (fail)
  go_wp2_with fail
  rw [rounds_succ]; go_wp2_with fail
  go_quiet (fail)
  go_wp2_with fail
  rw [rounds_succ]; go_wp2_with fail
  go_quiet (fail)
  go_wp2_with fail
  rw [rounds_succ]; go_wp2_with fail
  refine (HA.out _).mono ?_; rintro e w2 ⟨rfl, hU2⟩
  obtain ⟨hc2, hf2, hy2⟩ := hU2.facts
  have hz2 : w1.heap.size < w2.heap.size := by simp at hy2; omega
  go_wp2_with fail
  refine (HP.out _).mono ?_; rintro e w3 ⟨rfl, hU3⟩
  obtain ⟨hc3, hf3, hy3⟩ := hU3.facts
  have hz3 : w1.heap.size < w3.heap.size := by omega
  go_wp2_with fail
  refine (HZ.out _).mono ?_; rintro e w4 ⟨rfl, hU4⟩
  go_wp2_with fail
  go_ret
  exact ⟨ret_bool rfl, ((((((((Up.refl w).alloc _).trans hU1).alloc _).drewN _).trans hU2).trans hU3).trans hU4)⟩

set_option maxHeartbeats 8000000 in
set_option maxRecDepth 100000 in
theorem back_1 (F : Nat → Int) (k : Int) (hk : k % 8 = 1) (b : Int) (w : World) :
    Calls Try.prog 4 #[.agg #[.int .i64 (F 0), .int .i64 (F 1), .int .i64 (F 2), .int .i64 (F 3), .int .i64 (F 4), .int .i64 (F 5), .int .i64 (F 6), .int .i64 (F 7)], .int .i64 k, .int .i64 b] w fun e w' => e = .returned (.bool true) ∧ Below w.heap.size w w' := by
  have HT := Lib.hid (show ∀ w, Calls Try.prog 8 #[.agg #[.int .i64 (F 0), .int .i64 (F 1), .int .i64 (F 2), .int .i64 (F 3), .int .i64 (F 4), .int .i64 (F 5), .int .i64 (F 6), .int .i64 (F 7)], .int .i64 2, .int .i64 b] w fun e w' => e = .returned (.agg #[.int .i64 (F 0), .int .i64 (b % 256), .int .i64 (F 2), .int .i64 (F 3), .int .i64 (F 4), .int .i64 (F 5), .int .i64 (F 6), .int .i64 (F 7)]) ∧ Up w w' from fun w => by
    have h := tam_any F 2 b w
    rw [show vTam F 2 b 0 = F 0 by unfold vTam; rw [if_neg (by decide +kernel)]] at h
    rw [show vTam F 2 b 1 = b % 256 by unfold vTam; rw [if_pos (by decide +kernel)]] at h
    rw [show vTam F 2 b 2 = F 2 by unfold vTam; rw [if_neg (by decide +kernel)]] at h
    rw [show vTam F 2 b 3 = F 3 by unfold vTam; rw [if_neg (by decide +kernel)]] at h
    rw [show vTam F 2 b 4 = F 4 by unfold vTam; rw [if_neg (by decide +kernel)]] at h
    rw [show vTam F 2 b 5 = F 5 by unfold vTam; rw [if_neg (by decide +kernel)]] at h
    rw [show vTam F 2 b 6 = F 6 by unfold vTam; rw [if_neg (by decide +kernel)]] at h
    rw [show vTam F 2 b 7 = F 7 by unfold vTam; rw [if_neg (by decide +kernel)]] at h
    exact h)
  have HA := Lib.hid (show ∀ w, Calls Try.prog 9 #[.agg #[.int .i64 (F 0), .int .i64 (b % 256), .int .i64 (F 2), .int .i64 (F 3), .int .i64 (F 4), .int .i64 (F 5), .int .i64 (F 6), .int .i64 (F 7)], .int .i64 2, .int .i64 0] w fun e w' => e = .returned (.int .i64 (b % 256)) ∧ Up w w' from fun w => by
    have h := tma_any (fun i => match i with | 0 => F 0 | 1 => b % 256 | 2 => F 2 | 3 => F 3 | 4 => F 4 | 5 => F 5 | 6 => F 6 | _ => F 7) 2 0 w
    rw [show vTma (fun i => match i with | 0 => F 0 | 1 => b % 256 | 2 => F 2 | 3 => F 3 | 4 => F 4 | 5 => F 5 | 6 => F 6 | _ => F 7) 2 0 = b % 256 by unfold vTma; rw [if_neg (by decide +kernel)]; rw [if_pos (by decide +kernel)]; show b % 256 % 256 = b % 256; omega] at h
    exact h)
  have HZ := Lib.hid (show ∀ w, Calls Try.prog 9 #[.agg #[.int .i64 (F 0), .int .i64 (b % 256), .int .i64 (F 2), .int .i64 (F 3), .int .i64 (F 4), .int .i64 (F 5), .int .i64 (F 6), .int .i64 (F 7)], .int .i64 0, .int .i64 77] w fun e w' => e = .returned (.int .i64 77) ∧ Up w w' from fun w => by
    have h := tma_any (fun i => match i with | 0 => F 0 | 1 => b % 256 | 2 => F 2 | 3 => F 3 | 4 => F 4 | 5 => F 5 | 6 => F 6 | _ => F 7) 0 77 w
    rw [show vTma (fun i => match i with | 0 => F 0 | 1 => b % 256 | 2 => F 2 | 3 => F 3 | 4 => F 4 | 5 => F 5 | 6 => F 6 | _ => F 7) 0 77 = 77 by unfold vTma; rw [if_neg (by decide +kernel)]; rw [if_neg (by decide +kernel)]; rw [if_neg (by decide +kernel)]; rw [if_neg (by decide +kernel)]; rw [if_neg (by decide +kernel)]; rw [if_neg (by decide +kernel)]; rw [if_neg (by decide +kernel)]; rw [if_neg (by decide +kernel)]; rfl] at h
    exact h)
  have HP := Lib.hid (show ∀ w, Calls Try.prog 7 #[.agg #[.int .i64 (F 0), .int .i64 (b % 256), .int .i64 (F 2), .int .i64 (F 3), .int .i64 (F 4), .int .i64 (F 5), .int .i64 (F 6), .int .i64 (F 7)], .int .i64 8192] w fun e w' => e = .returned (.int .i64 (b % 256 * 8192)) ∧ Up w w' from fun w => by
    have h := phys_any (fun i => match i with | 0 => F 0 | 1 => b % 256 | 2 => F 2 | 3 => F 3 | 4 => F 4 | 5 => F 5 | 6 => F 6 | _ => F 7) 8192 w
    rw [show vPhys (fun i => match i with | 0 => F 0 | 1 => b % 256 | 2 => F 2 | 3 => F 3 | 4 => F 4 | 5 => F 5 | 6 => F 6 | _ => F 7) 8192 = b % 256 * 8192 by show b % 256 % 256 * 8192 + 0 = b % 256 * 8192; omega] at h
    exact h)
  have hb0 : 0 ≤ b % 256 := by omega
  have hb1 : b % 256 ≤ 255 := by omega
  go_enter Try.func4, Try.ntmps4
  go_wp2_with fail
  refine (HT.out _).mono ?_; rintro e w1 ⟨rfl, hU1⟩
  obtain ⟨hc1, hf1, _⟩ := hU1.facts
  have hz1 : w.heap.size < w1.heap.size := by have := hU1.size; simp at this; omega
  go_wp2_with fail
  refine wp_loop_rounds 9 ?_
  rw [rounds_succ]; go_wp2_with fail
  go_quiet (fail)
  go_wp2_with fail
  rw [rounds_succ]; go_wp2_with fail
  go_quiet (fail)
  go_wp2_with fail
  rw [rounds_succ]; go_wp2_with fail
  go_quiet (fail)
  go_wp2_with fail
  rw [rounds_succ]; go_wp2_with fail
  go_quiet (fail)
  go_wp2_with fail
  rw [rounds_succ]; go_wp2_with fail
  go_quiet (fail)
  go_wp2_with fail
  rw [rounds_succ]; go_wp2_with fail
  go_quiet (fail)
  go_wp2_with fail
  rw [rounds_succ]; go_wp2_with fail
  go_quiet (fail)
  go_wp2_with fail
  rw [rounds_succ]; go_wp2_with fail
  go_quiet (fail)
  go_wp2_with fail
  rw [rounds_succ]; go_wp2_with fail
  refine (HA.out _).mono ?_; rintro e w2 ⟨rfl, hU2⟩
  obtain ⟨hc2, hf2, hy2⟩ := hU2.facts
  have hz2 : w1.heap.size < w2.heap.size := by simp at hy2; omega
  go_wp2_with fail
  refine (HP.out _).mono ?_; rintro e w3 ⟨rfl, hU3⟩
  obtain ⟨hc3, hf3, hy3⟩ := hU3.facts
  have hz3 : w1.heap.size < w3.heap.size := by omega
  go_wp2_with fail
  refine (HZ.out _).mono ?_; rintro e w4 ⟨rfl, hU4⟩
  go_wp2_with fail
  go_ret
  exact ⟨ret_bool rfl, ((((((((Up.refl w).alloc _).trans hU1).alloc _).drewN _).trans hU2).trans hU3).trans hU4)⟩

set_option maxHeartbeats 8000000 in
set_option maxRecDepth 100000 in
theorem back_2 (F : Nat → Int) (k : Int) (hk : k % 8 = 2) (b : Int) (w : World) :
    Calls Try.prog 4 #[.agg #[.int .i64 (F 0), .int .i64 (F 1), .int .i64 (F 2), .int .i64 (F 3), .int .i64 (F 4), .int .i64 (F 5), .int .i64 (F 6), .int .i64 (F 7)], .int .i64 k, .int .i64 b] w fun e w' => e = .returned (.bool true) ∧ Below w.heap.size w w' := by
  have HT := Lib.hid (show ∀ w, Calls Try.prog 8 #[.agg #[.int .i64 (F 0), .int .i64 (F 1), .int .i64 (F 2), .int .i64 (F 3), .int .i64 (F 4), .int .i64 (F 5), .int .i64 (F 6), .int .i64 (F 7)], .int .i64 4, .int .i64 b] w fun e w' => e = .returned (.agg #[.int .i64 (F 0), .int .i64 (F 1), .int .i64 (b % 256), .int .i64 (F 3), .int .i64 (F 4), .int .i64 (F 5), .int .i64 (F 6), .int .i64 (F 7)]) ∧ Up w w' from fun w => by
    have h := tam_any F 4 b w
    rw [show vTam F 4 b 0 = F 0 by unfold vTam; rw [if_neg (by decide +kernel)]] at h
    rw [show vTam F 4 b 1 = F 1 by unfold vTam; rw [if_neg (by decide +kernel)]] at h
    rw [show vTam F 4 b 2 = b % 256 by unfold vTam; rw [if_pos (by decide +kernel)]] at h
    rw [show vTam F 4 b 3 = F 3 by unfold vTam; rw [if_neg (by decide +kernel)]] at h
    rw [show vTam F 4 b 4 = F 4 by unfold vTam; rw [if_neg (by decide +kernel)]] at h
    rw [show vTam F 4 b 5 = F 5 by unfold vTam; rw [if_neg (by decide +kernel)]] at h
    rw [show vTam F 4 b 6 = F 6 by unfold vTam; rw [if_neg (by decide +kernel)]] at h
    rw [show vTam F 4 b 7 = F 7 by unfold vTam; rw [if_neg (by decide +kernel)]] at h
    exact h)
  have HA := Lib.hid (show ∀ w, Calls Try.prog 9 #[.agg #[.int .i64 (F 0), .int .i64 (F 1), .int .i64 (b % 256), .int .i64 (F 3), .int .i64 (F 4), .int .i64 (F 5), .int .i64 (F 6), .int .i64 (F 7)], .int .i64 4, .int .i64 0] w fun e w' => e = .returned (.int .i64 (b % 256)) ∧ Up w w' from fun w => by
    have h := tma_any (fun i => match i with | 0 => F 0 | 1 => F 1 | 2 => b % 256 | 3 => F 3 | 4 => F 4 | 5 => F 5 | 6 => F 6 | _ => F 7) 4 0 w
    rw [show vTma (fun i => match i with | 0 => F 0 | 1 => F 1 | 2 => b % 256 | 3 => F 3 | 4 => F 4 | 5 => F 5 | 6 => F 6 | _ => F 7) 4 0 = b % 256 by unfold vTma; rw [if_neg (by decide +kernel)]; rw [if_neg (by decide +kernel)]; rw [if_pos (by decide +kernel)]; show b % 256 % 256 = b % 256; omega] at h
    exact h)
  have HZ := Lib.hid (show ∀ w, Calls Try.prog 9 #[.agg #[.int .i64 (F 0), .int .i64 (F 1), .int .i64 (b % 256), .int .i64 (F 3), .int .i64 (F 4), .int .i64 (F 5), .int .i64 (F 6), .int .i64 (F 7)], .int .i64 0, .int .i64 77] w fun e w' => e = .returned (.int .i64 77) ∧ Up w w' from fun w => by
    have h := tma_any (fun i => match i with | 0 => F 0 | 1 => F 1 | 2 => b % 256 | 3 => F 3 | 4 => F 4 | 5 => F 5 | 6 => F 6 | _ => F 7) 0 77 w
    rw [show vTma (fun i => match i with | 0 => F 0 | 1 => F 1 | 2 => b % 256 | 3 => F 3 | 4 => F 4 | 5 => F 5 | 6 => F 6 | _ => F 7) 0 77 = 77 by unfold vTma; rw [if_neg (by decide +kernel)]; rw [if_neg (by decide +kernel)]; rw [if_neg (by decide +kernel)]; rw [if_neg (by decide +kernel)]; rw [if_neg (by decide +kernel)]; rw [if_neg (by decide +kernel)]; rw [if_neg (by decide +kernel)]; rw [if_neg (by decide +kernel)]; rfl] at h
    exact h)
  have HP := Lib.hid (show ∀ w, Calls Try.prog 7 #[.agg #[.int .i64 (F 0), .int .i64 (F 1), .int .i64 (b % 256), .int .i64 (F 3), .int .i64 (F 4), .int .i64 (F 5), .int .i64 (F 6), .int .i64 (F 7)], .int .i64 16384] w fun e w' => e = .returned (.int .i64 (b % 256 * 8192)) ∧ Up w w' from fun w => by
    have h := phys_any (fun i => match i with | 0 => F 0 | 1 => F 1 | 2 => b % 256 | 3 => F 3 | 4 => F 4 | 5 => F 5 | 6 => F 6 | _ => F 7) 16384 w
    rw [show vPhys (fun i => match i with | 0 => F 0 | 1 => F 1 | 2 => b % 256 | 3 => F 3 | 4 => F 4 | 5 => F 5 | 6 => F 6 | _ => F 7) 16384 = b % 256 * 8192 by show b % 256 % 256 * 8192 + 0 = b % 256 * 8192; omega] at h
    exact h)
  have hb0 : 0 ≤ b % 256 := by omega
  have hb1 : b % 256 ≤ 255 := by omega
  go_enter Try.func4, Try.ntmps4
  go_wp2_with fail
  refine (HT.out _).mono ?_; rintro e w1 ⟨rfl, hU1⟩
  obtain ⟨hc1, hf1, _⟩ := hU1.facts
  have hz1 : w.heap.size < w1.heap.size := by have := hU1.size; simp at this; omega
  go_wp2_with fail
  refine wp_loop_rounds 9 ?_
  rw [rounds_succ]; go_wp2_with fail
  go_quiet (fail)
  go_wp2_with fail
  rw [rounds_succ]; go_wp2_with fail
  go_quiet (fail)
  go_wp2_with fail
  rw [rounds_succ]; go_wp2_with fail
  go_quiet (fail)
  go_wp2_with fail
  rw [rounds_succ]; go_wp2_with fail
  go_quiet (fail)
  go_wp2_with fail
  rw [rounds_succ]; go_wp2_with fail
  go_quiet (fail)
  go_wp2_with fail
  rw [rounds_succ]; go_wp2_with fail
  go_quiet (fail)
  go_wp2_with fail
  rw [rounds_succ]; go_wp2_with fail
  go_quiet (fail)
  go_wp2_with fail
  rw [rounds_succ]; go_wp2_with fail
  go_quiet (fail)
  go_wp2_with fail
  rw [rounds_succ]; go_wp2_with fail
  refine (HA.out _).mono ?_; rintro e w2 ⟨rfl, hU2⟩
  obtain ⟨hc2, hf2, hy2⟩ := hU2.facts
  have hz2 : w1.heap.size < w2.heap.size := by simp at hy2; omega
  go_wp2_with fail
  refine (HP.out _).mono ?_; rintro e w3 ⟨rfl, hU3⟩
  obtain ⟨hc3, hf3, hy3⟩ := hU3.facts
  have hz3 : w1.heap.size < w3.heap.size := by omega
  go_wp2_with fail
  refine (HZ.out _).mono ?_; rintro e w4 ⟨rfl, hU4⟩
  go_wp2_with fail
  go_ret
  exact ⟨ret_bool rfl, ((((((((Up.refl w).alloc _).trans hU1).alloc _).drewN _).trans hU2).trans hU3).trans hU4)⟩

set_option maxHeartbeats 8000000 in
set_option maxRecDepth 100000 in
theorem back_3 (F : Nat → Int) (k : Int) (hk : k % 8 = 3) (b : Int) (w : World) :
    Calls Try.prog 4 #[.agg #[.int .i64 (F 0), .int .i64 (F 1), .int .i64 (F 2), .int .i64 (F 3), .int .i64 (F 4), .int .i64 (F 5), .int .i64 (F 6), .int .i64 (F 7)], .int .i64 k, .int .i64 b] w fun e w' => e = .returned (.bool true) ∧ Below w.heap.size w w' := by
  have HT := Lib.hid (show ∀ w, Calls Try.prog 8 #[.agg #[.int .i64 (F 0), .int .i64 (F 1), .int .i64 (F 2), .int .i64 (F 3), .int .i64 (F 4), .int .i64 (F 5), .int .i64 (F 6), .int .i64 (F 7)], .int .i64 8, .int .i64 b] w fun e w' => e = .returned (.agg #[.int .i64 (F 0), .int .i64 (F 1), .int .i64 (F 2), .int .i64 (b % 256), .int .i64 (F 4), .int .i64 (F 5), .int .i64 (F 6), .int .i64 (F 7)]) ∧ Up w w' from fun w => by
    have h := tam_any F 8 b w
    rw [show vTam F 8 b 0 = F 0 by unfold vTam; rw [if_neg (by decide +kernel)]] at h
    rw [show vTam F 8 b 1 = F 1 by unfold vTam; rw [if_neg (by decide +kernel)]] at h
    rw [show vTam F 8 b 2 = F 2 by unfold vTam; rw [if_neg (by decide +kernel)]] at h
    rw [show vTam F 8 b 3 = b % 256 by unfold vTam; rw [if_pos (by decide +kernel)]] at h
    rw [show vTam F 8 b 4 = F 4 by unfold vTam; rw [if_neg (by decide +kernel)]] at h
    rw [show vTam F 8 b 5 = F 5 by unfold vTam; rw [if_neg (by decide +kernel)]] at h
    rw [show vTam F 8 b 6 = F 6 by unfold vTam; rw [if_neg (by decide +kernel)]] at h
    rw [show vTam F 8 b 7 = F 7 by unfold vTam; rw [if_neg (by decide +kernel)]] at h
    exact h)
  have HA := Lib.hid (show ∀ w, Calls Try.prog 9 #[.agg #[.int .i64 (F 0), .int .i64 (F 1), .int .i64 (F 2), .int .i64 (b % 256), .int .i64 (F 4), .int .i64 (F 5), .int .i64 (F 6), .int .i64 (F 7)], .int .i64 8, .int .i64 0] w fun e w' => e = .returned (.int .i64 (b % 256)) ∧ Up w w' from fun w => by
    have h := tma_any (fun i => match i with | 0 => F 0 | 1 => F 1 | 2 => F 2 | 3 => b % 256 | 4 => F 4 | 5 => F 5 | 6 => F 6 | _ => F 7) 8 0 w
    rw [show vTma (fun i => match i with | 0 => F 0 | 1 => F 1 | 2 => F 2 | 3 => b % 256 | 4 => F 4 | 5 => F 5 | 6 => F 6 | _ => F 7) 8 0 = b % 256 by unfold vTma; rw [if_neg (by decide +kernel)]; rw [if_neg (by decide +kernel)]; rw [if_neg (by decide +kernel)]; rw [if_pos (by decide +kernel)]; show b % 256 % 256 = b % 256; omega] at h
    exact h)
  have HZ := Lib.hid (show ∀ w, Calls Try.prog 9 #[.agg #[.int .i64 (F 0), .int .i64 (F 1), .int .i64 (F 2), .int .i64 (b % 256), .int .i64 (F 4), .int .i64 (F 5), .int .i64 (F 6), .int .i64 (F 7)], .int .i64 0, .int .i64 77] w fun e w' => e = .returned (.int .i64 77) ∧ Up w w' from fun w => by
    have h := tma_any (fun i => match i with | 0 => F 0 | 1 => F 1 | 2 => F 2 | 3 => b % 256 | 4 => F 4 | 5 => F 5 | 6 => F 6 | _ => F 7) 0 77 w
    rw [show vTma (fun i => match i with | 0 => F 0 | 1 => F 1 | 2 => F 2 | 3 => b % 256 | 4 => F 4 | 5 => F 5 | 6 => F 6 | _ => F 7) 0 77 = 77 by unfold vTma; rw [if_neg (by decide +kernel)]; rw [if_neg (by decide +kernel)]; rw [if_neg (by decide +kernel)]; rw [if_neg (by decide +kernel)]; rw [if_neg (by decide +kernel)]; rw [if_neg (by decide +kernel)]; rw [if_neg (by decide +kernel)]; rw [if_neg (by decide +kernel)]; rfl] at h
    exact h)
  have HP := Lib.hid (show ∀ w, Calls Try.prog 7 #[.agg #[.int .i64 (F 0), .int .i64 (F 1), .int .i64 (F 2), .int .i64 (b % 256), .int .i64 (F 4), .int .i64 (F 5), .int .i64 (F 6), .int .i64 (F 7)], .int .i64 24576] w fun e w' => e = .returned (.int .i64 (b % 256 * 8192)) ∧ Up w w' from fun w => by
    have h := phys_any (fun i => match i with | 0 => F 0 | 1 => F 1 | 2 => F 2 | 3 => b % 256 | 4 => F 4 | 5 => F 5 | 6 => F 6 | _ => F 7) 24576 w
    rw [show vPhys (fun i => match i with | 0 => F 0 | 1 => F 1 | 2 => F 2 | 3 => b % 256 | 4 => F 4 | 5 => F 5 | 6 => F 6 | _ => F 7) 24576 = b % 256 * 8192 by show b % 256 % 256 * 8192 + 0 = b % 256 * 8192; omega] at h
    exact h)
  have hb0 : 0 ≤ b % 256 := by omega
  have hb1 : b % 256 ≤ 255 := by omega
  go_enter Try.func4, Try.ntmps4
  go_wp2_with fail
  refine (HT.out _).mono ?_; rintro e w1 ⟨rfl, hU1⟩
  obtain ⟨hc1, hf1, _⟩ := hU1.facts
  have hz1 : w.heap.size < w1.heap.size := by have := hU1.size; simp at this; omega
  go_wp2_with fail
  refine wp_loop_rounds 9 ?_
  rw [rounds_succ]; go_wp2_with fail
  go_quiet (fail)
  go_wp2_with fail
  rw [rounds_succ]; go_wp2_with fail
  go_quiet (fail)
  go_wp2_with fail
  rw [rounds_succ]; go_wp2_with fail
  go_quiet (fail)
  go_wp2_with fail
  rw [rounds_succ]; go_wp2_with fail
  go_quiet (fail)
  go_wp2_with fail
  rw [rounds_succ]; go_wp2_with fail
  go_quiet (fail)
  go_wp2_with fail
  rw [rounds_succ]; go_wp2_with fail
  go_quiet (fail)
  go_wp2_with fail
  rw [rounds_succ]; go_wp2_with fail
  go_quiet (fail)
  go_wp2_with fail
  rw [rounds_succ]; go_wp2_with fail
  go_quiet (fail)
  go_wp2_with fail
  rw [rounds_succ]; go_wp2_with fail
  refine (HA.out _).mono ?_; rintro e w2 ⟨rfl, hU2⟩
  obtain ⟨hc2, hf2, hy2⟩ := hU2.facts
  have hz2 : w1.heap.size < w2.heap.size := by simp at hy2; omega
  go_wp2_with fail
  refine (HP.out _).mono ?_; rintro e w3 ⟨rfl, hU3⟩
  obtain ⟨hc3, hf3, hy3⟩ := hU3.facts
  have hz3 : w1.heap.size < w3.heap.size := by omega
  go_wp2_with fail
  refine (HZ.out _).mono ?_; rintro e w4 ⟨rfl, hU4⟩
  go_wp2_with fail
  go_ret
  exact ⟨ret_bool rfl, ((((((((Up.refl w).alloc _).trans hU1).alloc _).drewN _).trans hU2).trans hU3).trans hU4)⟩

set_option maxHeartbeats 8000000 in
set_option maxRecDepth 100000 in
theorem back_4 (F : Nat → Int) (k : Int) (hk : k % 8 = 4) (b : Int) (w : World) :
    Calls Try.prog 4 #[.agg #[.int .i64 (F 0), .int .i64 (F 1), .int .i64 (F 2), .int .i64 (F 3), .int .i64 (F 4), .int .i64 (F 5), .int .i64 (F 6), .int .i64 (F 7)], .int .i64 k, .int .i64 b] w fun e w' => e = .returned (.bool true) ∧ Below w.heap.size w w' := by
  have HT := Lib.hid (show ∀ w, Calls Try.prog 8 #[.agg #[.int .i64 (F 0), .int .i64 (F 1), .int .i64 (F 2), .int .i64 (F 3), .int .i64 (F 4), .int .i64 (F 5), .int .i64 (F 6), .int .i64 (F 7)], .int .i64 16, .int .i64 b] w fun e w' => e = .returned (.agg #[.int .i64 (F 0), .int .i64 (F 1), .int .i64 (F 2), .int .i64 (F 3), .int .i64 (b % 256), .int .i64 (F 5), .int .i64 (F 6), .int .i64 (F 7)]) ∧ Up w w' from fun w => by
    have h := tam_any F 16 b w
    rw [show vTam F 16 b 0 = F 0 by unfold vTam; rw [if_neg (by decide +kernel)]] at h
    rw [show vTam F 16 b 1 = F 1 by unfold vTam; rw [if_neg (by decide +kernel)]] at h
    rw [show vTam F 16 b 2 = F 2 by unfold vTam; rw [if_neg (by decide +kernel)]] at h
    rw [show vTam F 16 b 3 = F 3 by unfold vTam; rw [if_neg (by decide +kernel)]] at h
    rw [show vTam F 16 b 4 = b % 256 by unfold vTam; rw [if_pos (by decide +kernel)]] at h
    rw [show vTam F 16 b 5 = F 5 by unfold vTam; rw [if_neg (by decide +kernel)]] at h
    rw [show vTam F 16 b 6 = F 6 by unfold vTam; rw [if_neg (by decide +kernel)]] at h
    rw [show vTam F 16 b 7 = F 7 by unfold vTam; rw [if_neg (by decide +kernel)]] at h
    exact h)
  have HA := Lib.hid (show ∀ w, Calls Try.prog 9 #[.agg #[.int .i64 (F 0), .int .i64 (F 1), .int .i64 (F 2), .int .i64 (F 3), .int .i64 (b % 256), .int .i64 (F 5), .int .i64 (F 6), .int .i64 (F 7)], .int .i64 16, .int .i64 0] w fun e w' => e = .returned (.int .i64 (b % 256)) ∧ Up w w' from fun w => by
    have h := tma_any (fun i => match i with | 0 => F 0 | 1 => F 1 | 2 => F 2 | 3 => F 3 | 4 => b % 256 | 5 => F 5 | 6 => F 6 | _ => F 7) 16 0 w
    rw [show vTma (fun i => match i with | 0 => F 0 | 1 => F 1 | 2 => F 2 | 3 => F 3 | 4 => b % 256 | 5 => F 5 | 6 => F 6 | _ => F 7) 16 0 = b % 256 by unfold vTma; rw [if_neg (by decide +kernel)]; rw [if_neg (by decide +kernel)]; rw [if_neg (by decide +kernel)]; rw [if_neg (by decide +kernel)]; rw [if_pos (by decide +kernel)]; show b % 256 % 256 = b % 256; omega] at h
    exact h)
  have HZ := Lib.hid (show ∀ w, Calls Try.prog 9 #[.agg #[.int .i64 (F 0), .int .i64 (F 1), .int .i64 (F 2), .int .i64 (F 3), .int .i64 (b % 256), .int .i64 (F 5), .int .i64 (F 6), .int .i64 (F 7)], .int .i64 0, .int .i64 77] w fun e w' => e = .returned (.int .i64 77) ∧ Up w w' from fun w => by
    have h := tma_any (fun i => match i with | 0 => F 0 | 1 => F 1 | 2 => F 2 | 3 => F 3 | 4 => b % 256 | 5 => F 5 | 6 => F 6 | _ => F 7) 0 77 w
    rw [show vTma (fun i => match i with | 0 => F 0 | 1 => F 1 | 2 => F 2 | 3 => F 3 | 4 => b % 256 | 5 => F 5 | 6 => F 6 | _ => F 7) 0 77 = 77 by unfold vTma; rw [if_neg (by decide +kernel)]; rw [if_neg (by decide +kernel)]; rw [if_neg (by decide +kernel)]; rw [if_neg (by decide +kernel)]; rw [if_neg (by decide +kernel)]; rw [if_neg (by decide +kernel)]; rw [if_neg (by decide +kernel)]; rw [if_neg (by decide +kernel)]; rfl] at h
    exact h)
  have HP := Lib.hid (show ∀ w, Calls Try.prog 7 #[.agg #[.int .i64 (F 0), .int .i64 (F 1), .int .i64 (F 2), .int .i64 (F 3), .int .i64 (b % 256), .int .i64 (F 5), .int .i64 (F 6), .int .i64 (F 7)], .int .i64 32768] w fun e w' => e = .returned (.int .i64 (b % 256 * 8192)) ∧ Up w w' from fun w => by
    have h := phys_any (fun i => match i with | 0 => F 0 | 1 => F 1 | 2 => F 2 | 3 => F 3 | 4 => b % 256 | 5 => F 5 | 6 => F 6 | _ => F 7) 32768 w
    rw [show vPhys (fun i => match i with | 0 => F 0 | 1 => F 1 | 2 => F 2 | 3 => F 3 | 4 => b % 256 | 5 => F 5 | 6 => F 6 | _ => F 7) 32768 = b % 256 * 8192 by show b % 256 % 256 * 8192 + 0 = b % 256 * 8192; omega] at h
    exact h)
  have hb0 : 0 ≤ b % 256 := by omega
  have hb1 : b % 256 ≤ 255 := by omega
  go_enter Try.func4, Try.ntmps4
  go_wp2_with fail
  refine (HT.out _).mono ?_; rintro e w1 ⟨rfl, hU1⟩
  obtain ⟨hc1, hf1, _⟩ := hU1.facts
  have hz1 : w.heap.size < w1.heap.size := by have := hU1.size; simp at this; omega
  go_wp2_with fail
  refine wp_loop_rounds 9 ?_
  rw [rounds_succ]; go_wp2_with fail
  go_quiet (fail)
  go_wp2_with fail
  rw [rounds_succ]; go_wp2_with fail
  go_quiet (fail)
  go_wp2_with fail
  rw [rounds_succ]; go_wp2_with fail
  go_quiet (fail)
  go_wp2_with fail
  rw [rounds_succ]; go_wp2_with fail
  go_quiet (fail)
  go_wp2_with fail
  rw [rounds_succ]; go_wp2_with fail
  go_quiet (fail)
  go_wp2_with fail
  rw [rounds_succ]; go_wp2_with fail
  go_quiet (fail)
  go_wp2_with fail
  rw [rounds_succ]; go_wp2_with fail
  go_quiet (fail)
  go_wp2_with fail
  rw [rounds_succ]; go_wp2_with fail
  go_quiet (fail)
  go_wp2_with fail
  rw [rounds_succ]; go_wp2_with fail
  refine (HA.out _).mono ?_; rintro e w2 ⟨rfl, hU2⟩
  obtain ⟨hc2, hf2, hy2⟩ := hU2.facts
  have hz2 : w1.heap.size < w2.heap.size := by simp at hy2; omega
  go_wp2_with fail
  refine (HP.out _).mono ?_; rintro e w3 ⟨rfl, hU3⟩
  obtain ⟨hc3, hf3, hy3⟩ := hU3.facts
  have hz3 : w1.heap.size < w3.heap.size := by omega
  go_wp2_with fail
  refine (HZ.out _).mono ?_; rintro e w4 ⟨rfl, hU4⟩
  go_wp2_with fail
  go_ret
  exact ⟨ret_bool rfl, ((((((((Up.refl w).alloc _).trans hU1).alloc _).drewN _).trans hU2).trans hU3).trans hU4)⟩

set_option maxHeartbeats 8000000 in
set_option maxRecDepth 100000 in
theorem back_5 (F : Nat → Int) (k : Int) (hk : k % 8 = 5) (b : Int) (w : World) :
    Calls Try.prog 4 #[.agg #[.int .i64 (F 0), .int .i64 (F 1), .int .i64 (F 2), .int .i64 (F 3), .int .i64 (F 4), .int .i64 (F 5), .int .i64 (F 6), .int .i64 (F 7)], .int .i64 k, .int .i64 b] w fun e w' => e = .returned (.bool true) ∧ Below w.heap.size w w' := by
  have HT := Lib.hid (show ∀ w, Calls Try.prog 8 #[.agg #[.int .i64 (F 0), .int .i64 (F 1), .int .i64 (F 2), .int .i64 (F 3), .int .i64 (F 4), .int .i64 (F 5), .int .i64 (F 6), .int .i64 (F 7)], .int .i64 32, .int .i64 b] w fun e w' => e = .returned (.agg #[.int .i64 (F 0), .int .i64 (F 1), .int .i64 (F 2), .int .i64 (F 3), .int .i64 (F 4), .int .i64 (b % 256), .int .i64 (F 6), .int .i64 (F 7)]) ∧ Up w w' from fun w => by
    have h := tam_any F 32 b w
    rw [show vTam F 32 b 0 = F 0 by unfold vTam; rw [if_neg (by decide +kernel)]] at h
    rw [show vTam F 32 b 1 = F 1 by unfold vTam; rw [if_neg (by decide +kernel)]] at h
    rw [show vTam F 32 b 2 = F 2 by unfold vTam; rw [if_neg (by decide +kernel)]] at h
    rw [show vTam F 32 b 3 = F 3 by unfold vTam; rw [if_neg (by decide +kernel)]] at h
    rw [show vTam F 32 b 4 = F 4 by unfold vTam; rw [if_neg (by decide +kernel)]] at h
    rw [show vTam F 32 b 5 = b % 256 by unfold vTam; rw [if_pos (by decide +kernel)]] at h
    rw [show vTam F 32 b 6 = F 6 by unfold vTam; rw [if_neg (by decide +kernel)]] at h
    rw [show vTam F 32 b 7 = F 7 by unfold vTam; rw [if_neg (by decide +kernel)]] at h
    exact h)
  have HA := Lib.hid (show ∀ w, Calls Try.prog 9 #[.agg #[.int .i64 (F 0), .int .i64 (F 1), .int .i64 (F 2), .int .i64 (F 3), .int .i64 (F 4), .int .i64 (b % 256), .int .i64 (F 6), .int .i64 (F 7)], .int .i64 32, .int .i64 0] w fun e w' => e = .returned (.int .i64 (b % 256)) ∧ Up w w' from fun w => by
    have h := tma_any (fun i => match i with | 0 => F 0 | 1 => F 1 | 2 => F 2 | 3 => F 3 | 4 => F 4 | 5 => b % 256 | 6 => F 6 | _ => F 7) 32 0 w
    rw [show vTma (fun i => match i with | 0 => F 0 | 1 => F 1 | 2 => F 2 | 3 => F 3 | 4 => F 4 | 5 => b % 256 | 6 => F 6 | _ => F 7) 32 0 = b % 256 by unfold vTma; rw [if_neg (by decide +kernel)]; rw [if_neg (by decide +kernel)]; rw [if_neg (by decide +kernel)]; rw [if_neg (by decide +kernel)]; rw [if_neg (by decide +kernel)]; rw [if_pos (by decide +kernel)]; show b % 256 % 256 = b % 256; omega] at h
    exact h)
  have HZ := Lib.hid (show ∀ w, Calls Try.prog 9 #[.agg #[.int .i64 (F 0), .int .i64 (F 1), .int .i64 (F 2), .int .i64 (F 3), .int .i64 (F 4), .int .i64 (b % 256), .int .i64 (F 6), .int .i64 (F 7)], .int .i64 0, .int .i64 77] w fun e w' => e = .returned (.int .i64 77) ∧ Up w w' from fun w => by
    have h := tma_any (fun i => match i with | 0 => F 0 | 1 => F 1 | 2 => F 2 | 3 => F 3 | 4 => F 4 | 5 => b % 256 | 6 => F 6 | _ => F 7) 0 77 w
    rw [show vTma (fun i => match i with | 0 => F 0 | 1 => F 1 | 2 => F 2 | 3 => F 3 | 4 => F 4 | 5 => b % 256 | 6 => F 6 | _ => F 7) 0 77 = 77 by unfold vTma; rw [if_neg (by decide +kernel)]; rw [if_neg (by decide +kernel)]; rw [if_neg (by decide +kernel)]; rw [if_neg (by decide +kernel)]; rw [if_neg (by decide +kernel)]; rw [if_neg (by decide +kernel)]; rw [if_neg (by decide +kernel)]; rw [if_neg (by decide +kernel)]; rfl] at h
    exact h)
  have HP := Lib.hid (show ∀ w, Calls Try.prog 7 #[.agg #[.int .i64 (F 0), .int .i64 (F 1), .int .i64 (F 2), .int .i64 (F 3), .int .i64 (F 4), .int .i64 (b % 256), .int .i64 (F 6), .int .i64 (F 7)], .int .i64 40960] w fun e w' => e = .returned (.int .i64 (b % 256 * 8192)) ∧ Up w w' from fun w => by
    have h := phys_any (fun i => match i with | 0 => F 0 | 1 => F 1 | 2 => F 2 | 3 => F 3 | 4 => F 4 | 5 => b % 256 | 6 => F 6 | _ => F 7) 40960 w
    rw [show vPhys (fun i => match i with | 0 => F 0 | 1 => F 1 | 2 => F 2 | 3 => F 3 | 4 => F 4 | 5 => b % 256 | 6 => F 6 | _ => F 7) 40960 = b % 256 * 8192 by show b % 256 % 256 * 8192 + 0 = b % 256 * 8192; omega] at h
    exact h)
  have hb0 : 0 ≤ b % 256 := by omega
  have hb1 : b % 256 ≤ 255 := by omega
  go_enter Try.func4, Try.ntmps4
  go_wp2_with fail
  refine (HT.out _).mono ?_; rintro e w1 ⟨rfl, hU1⟩
  obtain ⟨hc1, hf1, _⟩ := hU1.facts
  have hz1 : w.heap.size < w1.heap.size := by have := hU1.size; simp at this; omega
  go_wp2_with fail
  refine wp_loop_rounds 9 ?_
  rw [rounds_succ]; go_wp2_with fail
  go_quiet (fail)
  go_wp2_with fail
  rw [rounds_succ]; go_wp2_with fail
  go_quiet (fail)
  go_wp2_with fail
  rw [rounds_succ]; go_wp2_with fail
  go_quiet (fail)
  go_wp2_with fail
  rw [rounds_succ]; go_wp2_with fail
  go_quiet (fail)
  go_wp2_with fail
  rw [rounds_succ]; go_wp2_with fail
  go_quiet (fail)
  go_wp2_with fail
  rw [rounds_succ]; go_wp2_with fail
  go_quiet (fail)
  go_wp2_with fail
  rw [rounds_succ]; go_wp2_with fail
  go_quiet (fail)
  go_wp2_with fail
  rw [rounds_succ]; go_wp2_with fail
  go_quiet (fail)
  go_wp2_with fail
  rw [rounds_succ]; go_wp2_with fail
  refine (HA.out _).mono ?_; rintro e w2 ⟨rfl, hU2⟩
  obtain ⟨hc2, hf2, hy2⟩ := hU2.facts
  have hz2 : w1.heap.size < w2.heap.size := by simp at hy2; omega
  go_wp2_with fail
  refine (HP.out _).mono ?_; rintro e w3 ⟨rfl, hU3⟩
  obtain ⟨hc3, hf3, hy3⟩ := hU3.facts
  have hz3 : w1.heap.size < w3.heap.size := by omega
  go_wp2_with fail
  refine (HZ.out _).mono ?_; rintro e w4 ⟨rfl, hU4⟩
  go_wp2_with fail
  go_ret
  exact ⟨ret_bool rfl, ((((((((Up.refl w).alloc _).trans hU1).alloc _).drewN _).trans hU2).trans hU3).trans hU4)⟩

set_option maxHeartbeats 8000000 in
set_option maxRecDepth 100000 in
theorem back_6 (F : Nat → Int) (k : Int) (hk : k % 8 = 6) (b : Int) (w : World) :
    Calls Try.prog 4 #[.agg #[.int .i64 (F 0), .int .i64 (F 1), .int .i64 (F 2), .int .i64 (F 3), .int .i64 (F 4), .int .i64 (F 5), .int .i64 (F 6), .int .i64 (F 7)], .int .i64 k, .int .i64 b] w fun e w' => e = .returned (.bool true) ∧ Below w.heap.size w w' := by
  have HT := Lib.hid (show ∀ w, Calls Try.prog 8 #[.agg #[.int .i64 (F 0), .int .i64 (F 1), .int .i64 (F 2), .int .i64 (F 3), .int .i64 (F 4), .int .i64 (F 5), .int .i64 (F 6), .int .i64 (F 7)], .int .i64 64, .int .i64 b] w fun e w' => e = .returned (.agg #[.int .i64 (F 0), .int .i64 (F 1), .int .i64 (F 2), .int .i64 (F 3), .int .i64 (F 4), .int .i64 (F 5), .int .i64 (b % 256), .int .i64 (F 7)]) ∧ Up w w' from fun w => by
    have h := tam_any F 64 b w
    rw [show vTam F 64 b 0 = F 0 by unfold vTam; rw [if_neg (by decide +kernel)]] at h
    rw [show vTam F 64 b 1 = F 1 by unfold vTam; rw [if_neg (by decide +kernel)]] at h
    rw [show vTam F 64 b 2 = F 2 by unfold vTam; rw [if_neg (by decide +kernel)]] at h
    rw [show vTam F 64 b 3 = F 3 by unfold vTam; rw [if_neg (by decide +kernel)]] at h
    rw [show vTam F 64 b 4 = F 4 by unfold vTam; rw [if_neg (by decide +kernel)]] at h
    rw [show vTam F 64 b 5 = F 5 by unfold vTam; rw [if_neg (by decide +kernel)]] at h
    rw [show vTam F 64 b 6 = b % 256 by unfold vTam; rw [if_pos (by decide +kernel)]] at h
    rw [show vTam F 64 b 7 = F 7 by unfold vTam; rw [if_neg (by decide +kernel)]] at h
    exact h)
  have HA := Lib.hid (show ∀ w, Calls Try.prog 9 #[.agg #[.int .i64 (F 0), .int .i64 (F 1), .int .i64 (F 2), .int .i64 (F 3), .int .i64 (F 4), .int .i64 (F 5), .int .i64 (b % 256), .int .i64 (F 7)], .int .i64 64, .int .i64 0] w fun e w' => e = .returned (.int .i64 (b % 256)) ∧ Up w w' from fun w => by
    have h := tma_any (fun i => match i with | 0 => F 0 | 1 => F 1 | 2 => F 2 | 3 => F 3 | 4 => F 4 | 5 => F 5 | 6 => b % 256 | _ => F 7) 64 0 w
    rw [show vTma (fun i => match i with | 0 => F 0 | 1 => F 1 | 2 => F 2 | 3 => F 3 | 4 => F 4 | 5 => F 5 | 6 => b % 256 | _ => F 7) 64 0 = b % 256 by unfold vTma; rw [if_neg (by decide +kernel)]; rw [if_neg (by decide +kernel)]; rw [if_neg (by decide +kernel)]; rw [if_neg (by decide +kernel)]; rw [if_neg (by decide +kernel)]; rw [if_neg (by decide +kernel)]; rw [if_pos (by decide +kernel)]; show b % 256 % 256 = b % 256; omega] at h
    exact h)
  have HZ := Lib.hid (show ∀ w, Calls Try.prog 9 #[.agg #[.int .i64 (F 0), .int .i64 (F 1), .int .i64 (F 2), .int .i64 (F 3), .int .i64 (F 4), .int .i64 (F 5), .int .i64 (b % 256), .int .i64 (F 7)], .int .i64 0, .int .i64 77] w fun e w' => e = .returned (.int .i64 77) ∧ Up w w' from fun w => by
    have h := tma_any (fun i => match i with | 0 => F 0 | 1 => F 1 | 2 => F 2 | 3 => F 3 | 4 => F 4 | 5 => F 5 | 6 => b % 256 | _ => F 7) 0 77 w
    rw [show vTma (fun i => match i with | 0 => F 0 | 1 => F 1 | 2 => F 2 | 3 => F 3 | 4 => F 4 | 5 => F 5 | 6 => b % 256 | _ => F 7) 0 77 = 77 by unfold vTma; rw [if_neg (by decide +kernel)]; rw [if_neg (by decide +kernel)]; rw [if_neg (by decide +kernel)]; rw [if_neg (by decide +kernel)]; rw [if_neg (by decide +kernel)]; rw [if_neg (by decide +kernel)]; rw [if_neg (by decide +kernel)]; rw [if_neg (by decide +kernel)]; rfl] at h
    exact h)
  have HP := Lib.hid (show ∀ w, Calls Try.prog 7 #[.agg #[.int .i64 (F 0), .int .i64 (F 1), .int .i64 (F 2), .int .i64 (F 3), .int .i64 (F 4), .int .i64 (F 5), .int .i64 (b % 256), .int .i64 (F 7)], .int .i64 49152] w fun e w' => e = .returned (.int .i64 (b % 256 * 8192)) ∧ Up w w' from fun w => by
    have h := phys_any (fun i => match i with | 0 => F 0 | 1 => F 1 | 2 => F 2 | 3 => F 3 | 4 => F 4 | 5 => F 5 | 6 => b % 256 | _ => F 7) 49152 w
    rw [show vPhys (fun i => match i with | 0 => F 0 | 1 => F 1 | 2 => F 2 | 3 => F 3 | 4 => F 4 | 5 => F 5 | 6 => b % 256 | _ => F 7) 49152 = b % 256 * 8192 by show b % 256 % 256 * 8192 + 0 = b % 256 * 8192; omega] at h
    exact h)
  have hb0 : 0 ≤ b % 256 := by omega
  have hb1 : b % 256 ≤ 255 := by omega
  go_enter Try.func4, Try.ntmps4
  go_wp2_with fail
  refine (HT.out _).mono ?_; rintro e w1 ⟨rfl, hU1⟩
  obtain ⟨hc1, hf1, _⟩ := hU1.facts
  have hz1 : w.heap.size < w1.heap.size := by have := hU1.size; simp at this; omega
  go_wp2_with fail
  refine wp_loop_rounds 9 ?_
  rw [rounds_succ]; go_wp2_with fail
  go_quiet (fail)
  go_wp2_with fail
  rw [rounds_succ]; go_wp2_with fail
  go_quiet (fail)
  go_wp2_with fail
  rw [rounds_succ]; go_wp2_with fail
  go_quiet (fail)
  go_wp2_with fail
  rw [rounds_succ]; go_wp2_with fail
  go_quiet (fail)
  go_wp2_with fail
  rw [rounds_succ]; go_wp2_with fail
  go_quiet (fail)
  go_wp2_with fail
  rw [rounds_succ]; go_wp2_with fail
  go_quiet (fail)
  go_wp2_with fail
  rw [rounds_succ]; go_wp2_with fail
  go_quiet (fail)
  go_wp2_with fail
  rw [rounds_succ]; go_wp2_with fail
  go_quiet (fail)
  go_wp2_with fail
  rw [rounds_succ]; go_wp2_with fail
  refine (HA.out _).mono ?_; rintro e w2 ⟨rfl, hU2⟩
  obtain ⟨hc2, hf2, hy2⟩ := hU2.facts
  have hz2 : w1.heap.size < w2.heap.size := by simp at hy2; omega
  go_wp2_with fail
  refine (HP.out _).mono ?_; rintro e w3 ⟨rfl, hU3⟩
  obtain ⟨hc3, hf3, hy3⟩ := hU3.facts
  have hz3 : w1.heap.size < w3.heap.size := by omega
  go_wp2_with fail
  refine (HZ.out _).mono ?_; rintro e w4 ⟨rfl, hU4⟩
  go_wp2_with fail
  go_ret
  exact ⟨ret_bool rfl, ((((((((Up.refl w).alloc _).trans hU1).alloc _).drewN _).trans hU2).trans hU3).trans hU4)⟩

set_option maxHeartbeats 8000000 in
set_option maxRecDepth 100000 in
theorem back_7 (F : Nat → Int) (k : Int) (hk : k % 8 = 7) (b : Int) (w : World) :
    Calls Try.prog 4 #[.agg #[.int .i64 (F 0), .int .i64 (F 1), .int .i64 (F 2), .int .i64 (F 3), .int .i64 (F 4), .int .i64 (F 5), .int .i64 (F 6), .int .i64 (F 7)], .int .i64 k, .int .i64 b] w fun e w' => e = .returned (.bool true) ∧ Below w.heap.size w w' := by
  have HT := Lib.hid (show ∀ w, Calls Try.prog 8 #[.agg #[.int .i64 (F 0), .int .i64 (F 1), .int .i64 (F 2), .int .i64 (F 3), .int .i64 (F 4), .int .i64 (F 5), .int .i64 (F 6), .int .i64 (F 7)], .int .i64 128, .int .i64 b] w fun e w' => e = .returned (.agg #[.int .i64 (F 0), .int .i64 (F 1), .int .i64 (F 2), .int .i64 (F 3), .int .i64 (F 4), .int .i64 (F 5), .int .i64 (F 6), .int .i64 (b % 256)]) ∧ Up w w' from fun w => by
    have h := tam_any F 128 b w
    rw [show vTam F 128 b 0 = F 0 by unfold vTam; rw [if_neg (by decide +kernel)]] at h
    rw [show vTam F 128 b 1 = F 1 by unfold vTam; rw [if_neg (by decide +kernel)]] at h
    rw [show vTam F 128 b 2 = F 2 by unfold vTam; rw [if_neg (by decide +kernel)]] at h
    rw [show vTam F 128 b 3 = F 3 by unfold vTam; rw [if_neg (by decide +kernel)]] at h
    rw [show vTam F 128 b 4 = F 4 by unfold vTam; rw [if_neg (by decide +kernel)]] at h
    rw [show vTam F 128 b 5 = F 5 by unfold vTam; rw [if_neg (by decide +kernel)]] at h
    rw [show vTam F 128 b 6 = F 6 by unfold vTam; rw [if_neg (by decide +kernel)]] at h
    rw [show vTam F 128 b 7 = b % 256 by unfold vTam; rw [if_pos (by decide +kernel)]] at h
    exact h)
  have HA := Lib.hid (show ∀ w, Calls Try.prog 9 #[.agg #[.int .i64 (F 0), .int .i64 (F 1), .int .i64 (F 2), .int .i64 (F 3), .int .i64 (F 4), .int .i64 (F 5), .int .i64 (F 6), .int .i64 (b % 256)], .int .i64 128, .int .i64 0] w fun e w' => e = .returned (.int .i64 (b % 256)) ∧ Up w w' from fun w => by
    have h := tma_any (fun i => match i with | 0 => F 0 | 1 => F 1 | 2 => F 2 | 3 => F 3 | 4 => F 4 | 5 => F 5 | 6 => F 6 | _ => b % 256) 128 0 w
    rw [show vTma (fun i => match i with | 0 => F 0 | 1 => F 1 | 2 => F 2 | 3 => F 3 | 4 => F 4 | 5 => F 5 | 6 => F 6 | _ => b % 256) 128 0 = b % 256 by unfold vTma; rw [if_neg (by decide +kernel)]; rw [if_neg (by decide +kernel)]; rw [if_neg (by decide +kernel)]; rw [if_neg (by decide +kernel)]; rw [if_neg (by decide +kernel)]; rw [if_neg (by decide +kernel)]; rw [if_neg (by decide +kernel)]; rw [if_pos (by decide +kernel)]; show b % 256 % 256 = b % 256; omega] at h
    exact h)
  have HZ := Lib.hid (show ∀ w, Calls Try.prog 9 #[.agg #[.int .i64 (F 0), .int .i64 (F 1), .int .i64 (F 2), .int .i64 (F 3), .int .i64 (F 4), .int .i64 (F 5), .int .i64 (F 6), .int .i64 (b % 256)], .int .i64 0, .int .i64 77] w fun e w' => e = .returned (.int .i64 77) ∧ Up w w' from fun w => by
    have h := tma_any (fun i => match i with | 0 => F 0 | 1 => F 1 | 2 => F 2 | 3 => F 3 | 4 => F 4 | 5 => F 5 | 6 => F 6 | _ => b % 256) 0 77 w
    rw [show vTma (fun i => match i with | 0 => F 0 | 1 => F 1 | 2 => F 2 | 3 => F 3 | 4 => F 4 | 5 => F 5 | 6 => F 6 | _ => b % 256) 0 77 = 77 by unfold vTma; rw [if_neg (by decide +kernel)]; rw [if_neg (by decide +kernel)]; rw [if_neg (by decide +kernel)]; rw [if_neg (by decide +kernel)]; rw [if_neg (by decide +kernel)]; rw [if_neg (by decide +kernel)]; rw [if_neg (by decide +kernel)]; rw [if_neg (by decide +kernel)]; rfl] at h
    exact h)
  have HP := Lib.hid (show ∀ w, Calls Try.prog 7 #[.agg #[.int .i64 (F 0), .int .i64 (F 1), .int .i64 (F 2), .int .i64 (F 3), .int .i64 (F 4), .int .i64 (F 5), .int .i64 (F 6), .int .i64 (b % 256)], .int .i64 57344] w fun e w' => e = .returned (.int .i64 (b % 256 * 8192)) ∧ Up w w' from fun w => by
    have h := phys_any (fun i => match i with | 0 => F 0 | 1 => F 1 | 2 => F 2 | 3 => F 3 | 4 => F 4 | 5 => F 5 | 6 => F 6 | _ => b % 256) 57344 w
    rw [show vPhys (fun i => match i with | 0 => F 0 | 1 => F 1 | 2 => F 2 | 3 => F 3 | 4 => F 4 | 5 => F 5 | 6 => F 6 | _ => b % 256) 57344 = b % 256 * 8192 by show b % 256 % 256 * 8192 + 0 = b % 256 * 8192; omega] at h
    exact h)
  have hb0 : 0 ≤ b % 256 := by omega
  have hb1 : b % 256 ≤ 255 := by omega
  go_enter Try.func4, Try.ntmps4
  go_wp2_with fail
  refine (HT.out _).mono ?_; rintro e w1 ⟨rfl, hU1⟩
  obtain ⟨hc1, hf1, _⟩ := hU1.facts
  have hz1 : w.heap.size < w1.heap.size := by have := hU1.size; simp at this; omega
  go_wp2_with fail
  refine wp_loop_rounds 9 ?_
  rw [rounds_succ]; go_wp2_with fail
  go_quiet (fail)
  go_wp2_with fail
  rw [rounds_succ]; go_wp2_with fail
  go_quiet (fail)
  go_wp2_with fail
  rw [rounds_succ]; go_wp2_with fail
  go_quiet (fail)
  go_wp2_with fail
  rw [rounds_succ]; go_wp2_with fail
  go_quiet (fail)
  go_wp2_with fail
  rw [rounds_succ]; go_wp2_with fail
  go_quiet (fail)
  go_wp2_with fail
  rw [rounds_succ]; go_wp2_with fail
  go_quiet (fail)
  go_wp2_with fail
  rw [rounds_succ]; go_wp2_with fail
  go_quiet (fail)
  go_wp2_with fail
  rw [rounds_succ]; go_wp2_with fail
  go_quiet (fail)
  go_wp2_with fail
  rw [rounds_succ]; go_wp2_with fail
  refine (HA.out _).mono ?_; rintro e w2 ⟨rfl, hU2⟩
  obtain ⟨hc2, hf2, hy2⟩ := hU2.facts
  have hz2 : w1.heap.size < w2.heap.size := by simp at hy2; omega
  go_wp2_with fail
  refine (HP.out _).mono ?_; rintro e w3 ⟨rfl, hU3⟩
  obtain ⟨hc3, hf3, hy3⟩ := hU3.facts
  have hz3 : w1.heap.size < w3.heap.size := by omega
  go_wp2_with fail
  refine (HZ.out _).mono ?_; rintro e w4 ⟨rfl, hU4⟩
  go_wp2_with fail
  go_ret
  exact ⟨ret_bool rfl, ((((((((Up.refl w).alloc _).trans hU1).alloc _).drewN _).trans hU2).trans hU3).trans hU4)⟩

set_option maxHeartbeats 1000000 in
theorem walk_mprBack (c0 : List Value) (f0 : OP.FitsAll [true, true, true, true, true, true, true, true] c0) (k : Int) (_hk : -9223372036854775808 ≤ k ∧ k ≤ 9223372036854775807) (b : Int) (_hb : -9223372036854775808 ≤ b ∧ b ≤ 9223372036854775807) (w : World) :
    Calls Try.prog 4 #[.agg ⟨c0⟩, .int .i64 k, .int .i64 b] w fun e w' => e = .returned (.bool true) ∧ Below w.heap.size w w' := by
  have e0 := f0
  obtain ⟨v0, q0, rfl, _, e1⟩ := OP.cons_int e0
  obtain ⟨v1, q1, rfl, _, e2⟩ := OP.cons_int e1
  obtain ⟨v2, q2, rfl, _, e3⟩ := OP.cons_int e2
  obtain ⟨v3, q3, rfl, _, e4⟩ := OP.cons_int e3
  obtain ⟨v4, q4, rfl, _, e5⟩ := OP.cons_int e4
  obtain ⟨v5, q5, rfl, _, e6⟩ := OP.cons_int e5
  obtain ⟨v6, q6, rfl, _, e7⟩ := OP.cons_int e6
  obtain ⟨v7, q7, rfl, _, e8⟩ := OP.cons_int e7
  obtain rfl := OP.none_left e8
  obtain ⟨F, rfl, rfl, rfl, rfl, rfl, rfl, rfl, rfl⟩ : ∃ F : Nat → Int, F 0 = v0 ∧ F 1 = v1 ∧ F 2 = v2 ∧ F 3 = v3 ∧ F 4 = v4 ∧ F 5 = v5 ∧ F 6 = v6 ∧ F 7 = v7 := ⟨fun i => match i with | 0 => v0 | 1 => v1 | 2 => v2 | 3 => v3 | 4 => v4 | 5 => v5 | 6 => v6 | _ => v7, rfl, rfl, rfl, rfl, rfl, rfl, rfl, rfl⟩
  clear f0 e0 e1 e2 e3 e4 e5 e6 e7 e8

  have hk : k % 8 = 0 ∨ k % 8 = 1 ∨ k % 8 = 2 ∨ k % 8 = 3 ∨ k % 8 = 4 ∨ k % 8 = 5 ∨ k % 8 = 6 ∨ k % 8 = 7 := by omega
  rcases hk with hk | hk | hk | hk | hk | hk | hk | hk
  · exact back_0 F k hk b w
  · exact back_1 F k hk b w
  · exact back_2 F k hk b w
  · exact back_3 F k hk b w
  · exact back_4 F k hk b w
  · exact back_5 F k hk b w
  · exact back_6 F k hk b w
  · exact back_7 F k hk b w
end Go.Proofs.Ythgcagnfjldlfaa
