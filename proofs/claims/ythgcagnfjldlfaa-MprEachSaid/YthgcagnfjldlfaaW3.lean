/- The walk of the law MprEach: it returns true. -/
import Derived.Test.YthgcagnfjldlfaaV
import Derived.Test.YthgcagnfjldlfaaOP
import Derived.LoopN
namespace Go.Proofs.Ythgcagnfjldlfaa
open Go.RowKit
attribute [local go_sem] BM.and255 BM.and8191 eq8 eq8r

set_option maxHeartbeats 8000000 in
set_option maxRecDepth 100000 in
theorem walk_mprEach (c0 : List Value) (f0 : OP.FitsAll [true, true, true, true, true, true, true, true] c0) (b : Int) (_hb : -9223372036854775808 ≤ b ∧ b ≤ 9223372036854775807) (n : Int) (_hn : -9223372036854775808 ≤ n ∧ n ≤ 9223372036854775807) (w : World) :
    Calls Try.prog 5 #[.agg ⟨c0⟩, .int .i64 b, .int .i64 n] w fun e w' => e = .returned (.bool true) ∧ Below w.heap.size w w' := by
  have e0 := f0
  obtain ⟨v0, q0, rfl, _, e1⟩ := OP.cons_int e0
  obtain ⟨v1, q1, rfl, _, e2⟩ := OP.cons_int e1
  obtain ⟨v2, q2, rfl, _, e3⟩ := OP.cons_int e2
  obtain ⟨v3, q3, rfl, _, e4⟩ := OP.cons_int e3
  obtain ⟨v4, q4, rfl, _, e5⟩ := OP.cons_int e4
  obtain ⟨v5, q5, rfl, _, e6⟩ := OP.cons_int e5
  obtain ⟨v6, q6, rfl, _, e7⟩ := OP.cons_int e6
  obtain ⟨v7, q7, rfl, _, e8⟩ := OP.cons_int e7
  obtain rfl := OP.none_left e8
  obtain ⟨F, rfl, rfl, rfl, rfl, rfl, rfl, rfl, rfl⟩ : ∃ F : Nat → Int, F 0 = v0 ∧ F 1 = v1 ∧ F 2 = v2 ∧ F 3 = v3 ∧ F 4 = v4 ∧ F 5 = v5 ∧ F 6 = v6 ∧ F 7 = v7 := ⟨fun i => match i with | 0 => v0 | 1 => v1 | 2 => v2 | 3 => v3 | 4 => v4 | 5 => v5 | 6 => v6 | _ => v7, rfl, rfl, rfl, rfl, rfl, rfl, rfl, rfl⟩
  clear f0 e0 e1 e2 e3 e4 e5 e6 e7 e8
  have HT := Lib.hid (show ∀ w, Calls Try.prog 8 #[.agg #[.int .i64 (F 0), .int .i64 (F 1), .int .i64 (F 2), .int .i64 (F 3), .int .i64 (F 4), .int .i64 (F 5), .int .i64 (F 6), .int .i64 (F 7)], .int .i64 255, .int .i64 b] w fun e w' => e = .returned (.agg #[.int .i64 (b % 256), .int .i64 (b % 256), .int .i64 (b % 256), .int .i64 (b % 256), .int .i64 (b % 256), .int .i64 (b % 256), .int .i64 (b % 256), .int .i64 (b % 256)]) ∧ Up w w' from fun w => by
    have h := tam_any F 255 b w
    rw [show vTam F 255 b 0 = b % 256 by unfold vTam; rw [if_pos (by decide +kernel)]] at h
    rw [show vTam F 255 b 1 = b % 256 by unfold vTam; rw [if_pos (by decide +kernel)]] at h
    rw [show vTam F 255 b 2 = b % 256 by unfold vTam; rw [if_pos (by decide +kernel)]] at h
    rw [show vTam F 255 b 3 = b % 256 by unfold vTam; rw [if_pos (by decide +kernel)]] at h
    rw [show vTam F 255 b 4 = b % 256 by unfold vTam; rw [if_pos (by decide +kernel)]] at h
    rw [show vTam F 255 b 5 = b % 256 by unfold vTam; rw [if_pos (by decide +kernel)]] at h
    rw [show vTam F 255 b 6 = b % 256 by unfold vTam; rw [if_pos (by decide +kernel)]] at h
    rw [show vTam F 255 b 7 = b % 256 by unfold vTam; rw [if_pos (by decide +kernel)]] at h
    exact h)
  have HS := Lib.hid (show ∀ (x : Int), (x = 0 ∨ x = 256) → ∀ w, Calls Try.prog 8 #[.agg #[.int .i64 (F 0), .int .i64 (F 1), .int .i64 (F 2), .int .i64 (F 3), .int .i64 (F 4), .int .i64 (F 5), .int .i64 (F 6), .int .i64 (F 7)], .int .i64 x, .int .i64 b] w fun e w' => e = .returned (.agg #[.int .i64 (F 0), .int .i64 (F 1), .int .i64 (F 2), .int .i64 (F 3), .int .i64 (F 4), .int .i64 (F 5), .int .i64 (F 6), .int .i64 (F 7)]) ∧ Up w w' from fun x hx w => by
    have h := tam_any F x b w
    rcases hx with rfl | rfl
    · rw [show vTam F 0 b 0 = F 0 by unfold vTam; rw [if_neg (by decide +kernel)], show vTam F 0 b 1 = F 1 by unfold vTam; rw [if_neg (by decide +kernel)], show vTam F 0 b 2 = F 2 by unfold vTam; rw [if_neg (by decide +kernel)], show vTam F 0 b 3 = F 3 by unfold vTam; rw [if_neg (by decide +kernel)], show vTam F 0 b 4 = F 4 by unfold vTam; rw [if_neg (by decide +kernel)], show vTam F 0 b 5 = F 5 by unfold vTam; rw [if_neg (by decide +kernel)], show vTam F 0 b 6 = F 6 by unfold vTam; rw [if_neg (by decide +kernel)], show vTam F 0 b 7 = F 7 by unfold vTam; rw [if_neg (by decide +kernel)]] at h
      exact h
    · rw [show vTam F 256 b 0 = F 0 by unfold vTam; rw [if_neg (by decide +kernel)], show vTam F 256 b 1 = F 1 by unfold vTam; rw [if_neg (by decide +kernel)], show vTam F 256 b 2 = F 2 by unfold vTam; rw [if_neg (by decide +kernel)], show vTam F 256 b 3 = F 3 by unfold vTam; rw [if_neg (by decide +kernel)], show vTam F 256 b 4 = F 4 by unfold vTam; rw [if_neg (by decide +kernel)], show vTam F 256 b 5 = F 5 by unfold vTam; rw [if_neg (by decide +kernel)], show vTam F 256 b 6 = F 6 by unfold vTam; rw [if_neg (by decide +kernel)], show vTam F 256 b 7 = F 7 by unfold vTam; rw [if_neg (by decide +kernel)]] at h
      exact h)
  have HA0 := Lib.hid (show ∀ w, Calls Try.prog 9 #[.agg #[.int .i64 (b % 256), .int .i64 (b % 256), .int .i64 (b % 256), .int .i64 (b % 256), .int .i64 (b % 256), .int .i64 (b % 256), .int .i64 (b % 256), .int .i64 (b % 256)], .int .i64 1, .int .i64 0] w fun e w' => e = .returned (.int .i64 (b % 256)) ∧ Up w w' from fun w => by
    have h := tma_any (fun _ => b % 256) 1 0 w
    rw [show vTma (fun _ => b % 256) 1 0 = b % 256 by unfold vTma; rw [if_pos (by decide +kernel)]; show b % 256 % 256 = b % 256; omega] at h
    exact h)
  have HA1 := Lib.hid (show ∀ w, Calls Try.prog 9 #[.agg #[.int .i64 (b % 256), .int .i64 (b % 256), .int .i64 (b % 256), .int .i64 (b % 256), .int .i64 (b % 256), .int .i64 (b % 256), .int .i64 (b % 256), .int .i64 (b % 256)], .int .i64 2, .int .i64 0] w fun e w' => e = .returned (.int .i64 (b % 256)) ∧ Up w w' from fun w => by
    have h := tma_any (fun _ => b % 256) 2 0 w
    rw [show vTma (fun _ => b % 256) 2 0 = b % 256 by unfold vTma; rw [if_neg (by decide +kernel)]; rw [if_pos (by decide +kernel)]; show b % 256 % 256 = b % 256; omega] at h
    exact h)
  have HA2 := Lib.hid (show ∀ w, Calls Try.prog 9 #[.agg #[.int .i64 (b % 256), .int .i64 (b % 256), .int .i64 (b % 256), .int .i64 (b % 256), .int .i64 (b % 256), .int .i64 (b % 256), .int .i64 (b % 256), .int .i64 (b % 256)], .int .i64 4, .int .i64 0] w fun e w' => e = .returned (.int .i64 (b % 256)) ∧ Up w w' from fun w => by
    have h := tma_any (fun _ => b % 256) 4 0 w
    rw [show vTma (fun _ => b % 256) 4 0 = b % 256 by unfold vTma; rw [if_neg (by decide +kernel)]; rw [if_neg (by decide +kernel)]; rw [if_pos (by decide +kernel)]; show b % 256 % 256 = b % 256; omega] at h
    exact h)
  have HA3 := Lib.hid (show ∀ w, Calls Try.prog 9 #[.agg #[.int .i64 (b % 256), .int .i64 (b % 256), .int .i64 (b % 256), .int .i64 (b % 256), .int .i64 (b % 256), .int .i64 (b % 256), .int .i64 (b % 256), .int .i64 (b % 256)], .int .i64 8, .int .i64 0] w fun e w' => e = .returned (.int .i64 (b % 256)) ∧ Up w w' from fun w => by
    have h := tma_any (fun _ => b % 256) 8 0 w
    rw [show vTma (fun _ => b % 256) 8 0 = b % 256 by unfold vTma; rw [if_neg (by decide +kernel)]; rw [if_neg (by decide +kernel)]; rw [if_neg (by decide +kernel)]; rw [if_pos (by decide +kernel)]; show b % 256 % 256 = b % 256; omega] at h
    exact h)
  have HA4 := Lib.hid (show ∀ w, Calls Try.prog 9 #[.agg #[.int .i64 (b % 256), .int .i64 (b % 256), .int .i64 (b % 256), .int .i64 (b % 256), .int .i64 (b % 256), .int .i64 (b % 256), .int .i64 (b % 256), .int .i64 (b % 256)], .int .i64 16, .int .i64 0] w fun e w' => e = .returned (.int .i64 (b % 256)) ∧ Up w w' from fun w => by
    have h := tma_any (fun _ => b % 256) 16 0 w
    rw [show vTma (fun _ => b % 256) 16 0 = b % 256 by unfold vTma; rw [if_neg (by decide +kernel)]; rw [if_neg (by decide +kernel)]; rw [if_neg (by decide +kernel)]; rw [if_neg (by decide +kernel)]; rw [if_pos (by decide +kernel)]; show b % 256 % 256 = b % 256; omega] at h
    exact h)
  have HA5 := Lib.hid (show ∀ w, Calls Try.prog 9 #[.agg #[.int .i64 (b % 256), .int .i64 (b % 256), .int .i64 (b % 256), .int .i64 (b % 256), .int .i64 (b % 256), .int .i64 (b % 256), .int .i64 (b % 256), .int .i64 (b % 256)], .int .i64 32, .int .i64 0] w fun e w' => e = .returned (.int .i64 (b % 256)) ∧ Up w w' from fun w => by
    have h := tma_any (fun _ => b % 256) 32 0 w
    rw [show vTma (fun _ => b % 256) 32 0 = b % 256 by unfold vTma; rw [if_neg (by decide +kernel)]; rw [if_neg (by decide +kernel)]; rw [if_neg (by decide +kernel)]; rw [if_neg (by decide +kernel)]; rw [if_neg (by decide +kernel)]; rw [if_pos (by decide +kernel)]; show b % 256 % 256 = b % 256; omega] at h
    exact h)
  have HA6 := Lib.hid (show ∀ w, Calls Try.prog 9 #[.agg #[.int .i64 (b % 256), .int .i64 (b % 256), .int .i64 (b % 256), .int .i64 (b % 256), .int .i64 (b % 256), .int .i64 (b % 256), .int .i64 (b % 256), .int .i64 (b % 256)], .int .i64 64, .int .i64 0] w fun e w' => e = .returned (.int .i64 (b % 256)) ∧ Up w w' from fun w => by
    have h := tma_any (fun _ => b % 256) 64 0 w
    rw [show vTma (fun _ => b % 256) 64 0 = b % 256 by unfold vTma; rw [if_neg (by decide +kernel)]; rw [if_neg (by decide +kernel)]; rw [if_neg (by decide +kernel)]; rw [if_neg (by decide +kernel)]; rw [if_neg (by decide +kernel)]; rw [if_neg (by decide +kernel)]; rw [if_pos (by decide +kernel)]; show b % 256 % 256 = b % 256; omega] at h
    exact h)
  have HA7 := Lib.hid (show ∀ w, Calls Try.prog 9 #[.agg #[.int .i64 (b % 256), .int .i64 (b % 256), .int .i64 (b % 256), .int .i64 (b % 256), .int .i64 (b % 256), .int .i64 (b % 256), .int .i64 (b % 256), .int .i64 (b % 256)], .int .i64 128, .int .i64 0] w fun e w' => e = .returned (.int .i64 (b % 256)) ∧ Up w w' from fun w => by
    have h := tma_any (fun _ => b % 256) 128 0 w
    rw [show vTma (fun _ => b % 256) 128 0 = b % 256 by unfold vTma; rw [if_neg (by decide +kernel)]; rw [if_neg (by decide +kernel)]; rw [if_neg (by decide +kernel)]; rw [if_neg (by decide +kernel)]; rw [if_neg (by decide +kernel)]; rw [if_neg (by decide +kernel)]; rw [if_neg (by decide +kernel)]; rw [if_pos (by decide +kernel)]; show b % 256 % 256 = b % 256; omega] at h
    exact h)
  have HP := Lib.hid (show ∀ w, Calls Try.prog 7 #[.agg #[.int .i64 (b % 256), .int .i64 (b % 256), .int .i64 (b % 256), .int .i64 (b % 256), .int .i64 (b % 256), .int .i64 (b % 256), .int .i64 (b % 256), .int .i64 (b % 256)], .int .i64 n] w fun e w' => e = .returned (.int .i64 (b % 256 * 8192 + n % 8192)) ∧ Up w w' from fun w => by
    have h := phys_any (fun _ => b % 256) n w
    rw [show vPhys (fun _ => b % 256) n = b % 256 * 8192 + n % 8192 by unfold vPhys; show b % 256 % 256 * 8192 + n % 8192 = b % 256 * 8192 + n % 8192; omega] at h
    exact h)
  have HV := Lib.hid (show ∀ w, Calls Try.prog 10 #[.agg #[.int .i64 (b % 256), .int .i64 (b % 256), .int .i64 (b % 256), .int .i64 (b % 256), .int .i64 (b % 256), .int .i64 (b % 256), .int .i64 (b % 256), .int .i64 (b % 256)]] w fun e w' => e = .returned (.bool true) ∧ Up w w' from fun w => by
    have h := valid_any (fun _ => b % 256) w
    rw [show vOk (fun _ => b % 256) = true by simp [vOk]] at h
    exact h)
  have HO := phys_or b n
  have hb0 : 0 ≤ b % 256 := by omega
  have hb1 : b % 256 ≤ 255 := by omega
  have hw : IntKind.i64.wrap (b % 256 * 8192) = b % 256 * 8192 := by rw [IntKind.wrap_i64]; omega
  go_enter Try.func5, Try.ntmps5
  go_wp2_with fail
  refine (HT.out _).mono ?_; rintro e u0 ⟨rfl, hV0⟩
  obtain ⟨hc0, hf0, _⟩ := hV0.facts
  have hy0 : w.heap.size < u0.heap.size := by have := hV0.size; simp at this; omega
  go_wp2_with fail
  refine wp_loop_rounds 9 ?_
  rw [rounds_succ]; go_wp2_with fail
  refine (HA0.out _).mono ?_; rintro e u1 ⟨rfl, hV1⟩
  obtain ⟨hc1, hf1, _⟩ := hV1.facts
  have hy1 : w.heap.size < u1.heap.size := by have := hV1.size; (try simp at this); omega
  have hx1 : u0.heap.size < u1.heap.size := by have := hV1.size; (try simp at this); omega
  go_wp2_with fail
  rw [rounds_succ]; go_wp2_with fail
  refine (HA1.out _).mono ?_; rintro e u2 ⟨rfl, hV2⟩
  obtain ⟨hc2, hf2, _⟩ := hV2.facts
  have hy2 : w.heap.size < u2.heap.size := by have := hV2.size; (try simp at this); omega
  have hx2 : u0.heap.size < u2.heap.size := by have := hV2.size; (try simp at this); omega
  go_wp2_with fail
  rw [rounds_succ]; go_wp2_with fail
  refine (HA2.out _).mono ?_; rintro e u3 ⟨rfl, hV3⟩
  obtain ⟨hc3, hf3, _⟩ := hV3.facts
  have hy3 : w.heap.size < u3.heap.size := by have := hV3.size; (try simp at this); omega
  have hx3 : u0.heap.size < u3.heap.size := by have := hV3.size; (try simp at this); omega
  go_wp2_with fail
  rw [rounds_succ]; go_wp2_with fail
  refine (HA3.out _).mono ?_; rintro e u4 ⟨rfl, hV4⟩
  obtain ⟨hc4, hf4, _⟩ := hV4.facts
  have hy4 : w.heap.size < u4.heap.size := by have := hV4.size; (try simp at this); omega
  have hx4 : u0.heap.size < u4.heap.size := by have := hV4.size; (try simp at this); omega
  go_wp2_with fail
  rw [rounds_succ]; go_wp2_with fail
  refine (HA4.out _).mono ?_; rintro e u5 ⟨rfl, hV5⟩
  obtain ⟨hc5, hf5, _⟩ := hV5.facts
  have hy5 : w.heap.size < u5.heap.size := by have := hV5.size; (try simp at this); omega
  have hx5 : u0.heap.size < u5.heap.size := by have := hV5.size; (try simp at this); omega
  go_wp2_with fail
  rw [rounds_succ]; go_wp2_with fail
  refine (HA5.out _).mono ?_; rintro e u6 ⟨rfl, hV6⟩
  obtain ⟨hc6, hf6, _⟩ := hV6.facts
  have hy6 : w.heap.size < u6.heap.size := by have := hV6.size; (try simp at this); omega
  have hx6 : u0.heap.size < u6.heap.size := by have := hV6.size; (try simp at this); omega
  go_wp2_with fail
  rw [rounds_succ]; go_wp2_with fail
  refine (HA6.out _).mono ?_; rintro e u7 ⟨rfl, hV7⟩
  obtain ⟨hc7, hf7, _⟩ := hV7.facts
  have hy7 : w.heap.size < u7.heap.size := by have := hV7.size; (try simp at this); omega
  have hx7 : u0.heap.size < u7.heap.size := by have := hV7.size; (try simp at this); omega
  go_wp2_with fail
  rw [rounds_succ]; go_wp2_with fail
  refine (HA7.out _).mono ?_; rintro e u8 ⟨rfl, hV8⟩
  obtain ⟨hc8, hf8, _⟩ := hV8.facts
  have hy8 : w.heap.size < u8.heap.size := by have := hV8.size; (try simp at this); omega
  have hx8 : u0.heap.size < u8.heap.size := by have := hV8.size; (try simp at this); omega
  go_wp2_with fail
  rw [rounds_succ]; go_wp2_with fail
  have hU_W0 : Up w u8 := (by repeat (first | exact Up.refl _ | refine Up.alloc ?_ _ | refine Up.trans ?_ (by assumption)))
  have yW00 : w.heap.size < u8.heap.size := by (try simp only [World.size_alloc]); omega
  have zW00 : u8.cell? ⟨w.heap.size, 0, none⟩ = some (.int .i64 (F 0)) := by go_simp
  have zW01 : u8.cell? ⟨w.heap.size, 1, none⟩ = some (.int .i64 (F 1)) := by go_simp
  have zW02 : u8.cell? ⟨w.heap.size, 2, none⟩ = some (.int .i64 (F 2)) := by go_simp
  have zW03 : u8.cell? ⟨w.heap.size, 3, none⟩ = some (.int .i64 (F 3)) := by go_simp
  have zW04 : u8.cell? ⟨w.heap.size, 4, none⟩ = some (.int .i64 (F 4)) := by go_simp
  have zW05 : u8.cell? ⟨w.heap.size, 5, none⟩ = some (.int .i64 (F 5)) := by go_simp
  have zW06 : u8.cell? ⟨w.heap.size, 6, none⟩ = some (.int .i64 (F 6)) := by go_simp
  have zW07 : u8.cell? ⟨w.heap.size, 7, none⟩ = some (.int .i64 (F 7)) := by go_simp
  have yW01 : u0.heap.size < u8.heap.size := by (try simp only [World.size_alloc]); omega
  have zW08 : u8.cell? ⟨u0.heap.size, 0, none⟩ = some (.int .i64 (b % 256)) := by go_simp
  have zW09 : u8.cell? ⟨u0.heap.size, 1, none⟩ = some (.int .i64 (b % 256)) := by go_simp
  have zW010 : u8.cell? ⟨u0.heap.size, 2, none⟩ = some (.int .i64 (b % 256)) := by go_simp
  have zW011 : u8.cell? ⟨u0.heap.size, 3, none⟩ = some (.int .i64 (b % 256)) := by go_simp
  have zW012 : u8.cell? ⟨u0.heap.size, 4, none⟩ = some (.int .i64 (b % 256)) := by go_simp
  have zW013 : u8.cell? ⟨u0.heap.size, 5, none⟩ = some (.int .i64 (b % 256)) := by go_simp
  have zW014 : u8.cell? ⟨u0.heap.size, 6, none⟩ = some (.int .i64 (b % 256)) := by go_simp
  have zW015 : u8.cell? ⟨u0.heap.size, 7, none⟩ = some (.int .i64 (b % 256)) := by go_simp
  generalize u8 = W0 at *
  go_region_held3 (fun w' => Up W0 w' ∧ ∀ b o, b < W0.heap.size → w'.cell? ⟨b, o, none⟩ = W0.cell? ⟨b, o, none⟩) (first | exact ⟨by assumption, by assumption⟩ | go_keep) (first | (go_at_call 7; refine (HP.out _).mono ?_; rintro e w3 ⟨rfl, hB3⟩; have hU3 : Up W0 w3 := (by first | exact Up.trans (by assumption) hB3 | exact Up.trans (Up.drew (Up.refl W0)) hB3); have hc3 : ∀ b o, b < W0.heap.size → w3.cell? ⟨b, o, none⟩ = W0.cell? ⟨b, o, none⟩ := (fun b o hb => hU3.cell hb)) | (go_at_call 8; refine (HS.out _ (by first | exact .inl rfl | exact .inr rfl) _).mono ?_; rintro e w3 ⟨rfl, hB3⟩; have hU3 : Up W0 w3 := (by first | exact Up.trans (by assumption) hB3 | exact Up.trans (Up.drew (Up.refl W0)) hB3); have hc3 : ∀ b o, b < W0.heap.size → w3.cell? ⟨b, o, none⟩ = W0.cell? ⟨b, o, none⟩ := (fun b o hb => hU3.cell hb)) | (go_at_call 10; refine (HV.out _).mono ?_; rintro e w3 ⟨rfl, hB3⟩; have hU3 : Up W0 w3 := (by first | exact Up.trans (by assumption) hB3 | exact Up.trans (Up.drew (Up.refl W0)) hB3); have hc3 : ∀ b o, b < W0.heap.size → w3.cell? ⟨b, o, none⟩ = W0.cell? ⟨b, o, none⟩ := (fun b o hb => hU3.cell hb)))
  obtain ⟨hU4, hc4⟩ := ‹Up W0 w3 ∧ _›
  go_wp2_with fail
  go_ret
  exact ⟨ret_bool rfl, hU_W0.trans hU4⟩
end Go.Proofs.Ythgcagnfjldlfaa
