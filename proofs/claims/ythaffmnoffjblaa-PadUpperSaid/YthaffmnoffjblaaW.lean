/- The walk of the law PadUpper: it returns true. -/
import Derived.Test.YthaffmnoffjblaaA
import Derived.Test.YthaffmnoffjblaaOP
import Derived.Deep.RegionHeld3
import Derived.Lib.Hide
namespace Go.Proofs.Ythaffmnoffjblaa
open Go.RowKit
attribute [local go_sem] BM.and15 BM.and3

/-- What is read abroad and at home: the same four keys below. -/
theorem rd_two (sel sec : Bool) (idx k0 : Int) (s0 : Bool) (k1 : Int) (s1 : Bool) (k2 : Int) (s2 : Bool) (k3 : Int) (s3 : Bool) (k4 : Int) (s4 : Bool) :
    ∃ a b : Int, vRd sel sec idx k0 s0 k1 s1 k2 s2 k3 s3 k4 s4 true = a ∧ vRd sel sec idx k0 s0 k1 s1 k2 s2 k3 s3 k4 s4 false = b ∧ a / 16 = 11 ∧ b / 16 = 15 ∧ b % 16 = a % 16 := by
  refine ⟨_, _, rfl, rfl, ?_⟩
  have h0 := vPr_rng k0 s0 sel sec
  have h1 := vPr_rng k1 s1 sel sec
  have h2 := vPr_rng k2 s2 sel sec
  have h3 := vPr_rng k3 s3 sel sec
  have h4 := vPr_rng k4 s4 sel sec
  unfold vRd
  simp only [vBase, if_true, Bool.false_eq_true, if_false]
  repeat' split
  all_goals omega

set_option maxHeartbeats 8000000 in
set_option maxRecDepth 100000 in
theorem walk_padUpper (c0 : List Value) (f0 : OP.FitsAll [false, false, false, true] c0) (c1 : List Value) (f1 : OP.FitsAll [true, false, true, false, true, false, true, false, true, false] c1) (k : Int) (_hk : -9223372036854775808 ≤ k ∧ k ≤ 9223372036854775807) (w : World) :
    Calls Try.prog 3 #[.agg ⟨c0⟩, .agg ⟨c1⟩, .int .i64 k] w fun e w' => e = .returned (.bool true) ∧ Below w.heap.size w w' := by
  obtain ⟨sel, r0, rfl, g1⟩ := OP.cons_bool f0
  obtain ⟨clr, r1, rfl, g2⟩ := OP.cons_bool g1
  obtain ⟨sec, r2, rfl, g3⟩ := OP.cons_bool g2
  obtain ⟨idx, r3, rfl, _, g4⟩ := OP.cons_int g3
  obtain rfl := OP.none_left g4
  have e0 := f1
  obtain ⟨k0, q0, rfl, _, d0⟩ := OP.cons_int e0
  obtain ⟨s0, t0, rfl, e1⟩ := OP.cons_bool d0
  obtain ⟨k1, q1, rfl, _, d1⟩ := OP.cons_int e1
  obtain ⟨s1, t1, rfl, e2⟩ := OP.cons_bool d1
  obtain ⟨k2, q2, rfl, _, d2⟩ := OP.cons_int e2
  obtain ⟨s2, t2, rfl, e3⟩ := OP.cons_bool d2
  obtain ⟨k3, q3, rfl, _, d3⟩ := OP.cons_int e3
  obtain ⟨s3, t3, rfl, e4⟩ := OP.cons_bool d3
  obtain ⟨k4, q4, rfl, _, d4⟩ := OP.cons_int e4
  obtain ⟨s4, t4, rfl, e5⟩ := OP.cons_bool d4
  obtain rfl := OP.none_left e5
  clear f0 f1 g1 g2 g3 g4 e0 e1 e2 e3 e4 e5 d0 d1 d2 d3 d4
  obtain ⟨a, b, ha, hb, a1, b1, ab⟩ := rd_two sel sec idx k0 s0 k1 s1 k2 s2 k3 s3 k4 s4
  have HA := Lib.hid (show ∀ (ab : Bool) w, Calls Try.prog 6 #[.agg #[.bool sel, .bool clr, .bool sec, .int .i64 idx], .agg #[.int .i64 k0, .bool s0, .int .i64 k1, .bool s1, .int .i64 k2, .bool s2, .int .i64 k3, .bool s3, .int .i64 k4, .bool s4], .bool ab] w fun e w' => e = .returned (.int .i64 (if ab then a else b)) ∧ Up w w' from fun ab w => match ab with | true => ha ▸ read_any _ _ _ _ _ _ _ _ _ _ _ _ _ _ _ w | false => hb ▸ read_any _ _ _ _ _ _ _ _ _ _ _ _ _ _ _ w)
  clear ha hb
  have hK : k % 4 = 0 ∨ k % 4 = 1 ∨ k % 4 = 2 ∨ k % 4 = 3 := by omega
  cases sel
  rcases hK with hK | hK | hK | hK
  · have HR := Lib.hid (show ∀ (x : Int) w, Calls Try.prog 6 #[.agg #[.bool false, .bool false, .bool false, .int .i64 2], .agg #[.int .i64 0, .bool false, .int .i64 0, .bool false, .int .i64 x, .bool false, .int .i64 0, .bool false, .int .i64 0, .bool false], .bool true] w (fun e w' => e = .returned (.int .i64 (191 - x % 65536 % 16)) ∧ Up w w') from fun x w => (show vRd false false 2 0 false 0 false x false 0 false 0 false true = 191 - x % 65536 % 16 by simp [vRd, vBase, vPr]) ▸ read_any _ _ _ _ _ _ _ _ _ _ _ _ _ _ _ w)
    have hn : bits .andNot .i64 191 1 = 190 := by decide +kernel
    go_enter Try.func3, Try.ntmps3
    go_wp2_with fail
    have hU_W0 : Up w ((w.alloc (.cells #[.bool false, .bool clr, .bool sec, .int .i64 idx] 23)).alloc (.cells #[.int .i64 k0, .bool s0, .int .i64 k1, .bool s1, .int .i64 k2, .bool s2, .int .i64 k3, .bool s3, .int .i64 k4, .bool s4] 26)) := ((Up.refl w).alloc _).alloc _
    have yW00 : w.heap.size < ((w.alloc (.cells #[.bool false, .bool clr, .bool sec, .int .i64 idx] 23)).alloc (.cells #[.int .i64 k0, .bool s0, .int .i64 k1, .bool s1, .int .i64 k2, .bool s2, .int .i64 k3, .bool s3, .int .i64 k4, .bool s4] 26)).heap.size := by (try simp only [World.size_alloc]); omega
    have zW00 : ((w.alloc (.cells #[.bool false, .bool clr, .bool sec, .int .i64 idx] 23)).alloc (.cells #[.int .i64 k0, .bool s0, .int .i64 k1, .bool s1, .int .i64 k2, .bool s2, .int .i64 k3, .bool s3, .int .i64 k4, .bool s4] 26)).cell? ⟨w.heap.size, 0, none⟩ = some (.bool false) := by go_simp
    have zW01 : ((w.alloc (.cells #[.bool false, .bool clr, .bool sec, .int .i64 idx] 23)).alloc (.cells #[.int .i64 k0, .bool s0, .int .i64 k1, .bool s1, .int .i64 k2, .bool s2, .int .i64 k3, .bool s3, .int .i64 k4, .bool s4] 26)).cell? ⟨w.heap.size, 1, none⟩ = some (.bool clr) := by go_simp
    have zW02 : ((w.alloc (.cells #[.bool false, .bool clr, .bool sec, .int .i64 idx] 23)).alloc (.cells #[.int .i64 k0, .bool s0, .int .i64 k1, .bool s1, .int .i64 k2, .bool s2, .int .i64 k3, .bool s3, .int .i64 k4, .bool s4] 26)).cell? ⟨w.heap.size, 2, none⟩ = some (.bool sec) := by go_simp
    have zW03 : ((w.alloc (.cells #[.bool false, .bool clr, .bool sec, .int .i64 idx] 23)).alloc (.cells #[.int .i64 k0, .bool s0, .int .i64 k1, .bool s1, .int .i64 k2, .bool s2, .int .i64 k3, .bool s3, .int .i64 k4, .bool s4] 26)).cell? ⟨w.heap.size, 3, none⟩ = some (.int .i64 idx) := by go_simp
    have yW01 : w.heap.size + 1 < ((w.alloc (.cells #[.bool false, .bool clr, .bool sec, .int .i64 idx] 23)).alloc (.cells #[.int .i64 k0, .bool s0, .int .i64 k1, .bool s1, .int .i64 k2, .bool s2, .int .i64 k3, .bool s3, .int .i64 k4, .bool s4] 26)).heap.size := by (try simp only [World.size_alloc]); omega
    have zW04 : ((w.alloc (.cells #[.bool false, .bool clr, .bool sec, .int .i64 idx] 23)).alloc (.cells #[.int .i64 k0, .bool s0, .int .i64 k1, .bool s1, .int .i64 k2, .bool s2, .int .i64 k3, .bool s3, .int .i64 k4, .bool s4] 26)).cell? ⟨w.heap.size + 1, 0, none⟩ = some (.int .i64 k0) := by go_simp
    have zW05 : ((w.alloc (.cells #[.bool false, .bool clr, .bool sec, .int .i64 idx] 23)).alloc (.cells #[.int .i64 k0, .bool s0, .int .i64 k1, .bool s1, .int .i64 k2, .bool s2, .int .i64 k3, .bool s3, .int .i64 k4, .bool s4] 26)).cell? ⟨w.heap.size + 1, 1, none⟩ = some (.bool s0) := by go_simp
    have zW06 : ((w.alloc (.cells #[.bool false, .bool clr, .bool sec, .int .i64 idx] 23)).alloc (.cells #[.int .i64 k0, .bool s0, .int .i64 k1, .bool s1, .int .i64 k2, .bool s2, .int .i64 k3, .bool s3, .int .i64 k4, .bool s4] 26)).cell? ⟨w.heap.size + 1, 2, none⟩ = some (.int .i64 k1) := by go_simp
    have zW07 : ((w.alloc (.cells #[.bool false, .bool clr, .bool sec, .int .i64 idx] 23)).alloc (.cells #[.int .i64 k0, .bool s0, .int .i64 k1, .bool s1, .int .i64 k2, .bool s2, .int .i64 k3, .bool s3, .int .i64 k4, .bool s4] 26)).cell? ⟨w.heap.size + 1, 3, none⟩ = some (.bool s1) := by go_simp
    have zW08 : ((w.alloc (.cells #[.bool false, .bool clr, .bool sec, .int .i64 idx] 23)).alloc (.cells #[.int .i64 k0, .bool s0, .int .i64 k1, .bool s1, .int .i64 k2, .bool s2, .int .i64 k3, .bool s3, .int .i64 k4, .bool s4] 26)).cell? ⟨w.heap.size + 1, 4, none⟩ = some (.int .i64 k2) := by go_simp
    have zW09 : ((w.alloc (.cells #[.bool false, .bool clr, .bool sec, .int .i64 idx] 23)).alloc (.cells #[.int .i64 k0, .bool s0, .int .i64 k1, .bool s1, .int .i64 k2, .bool s2, .int .i64 k3, .bool s3, .int .i64 k4, .bool s4] 26)).cell? ⟨w.heap.size + 1, 5, none⟩ = some (.bool s2) := by go_simp
    have zW010 : ((w.alloc (.cells #[.bool false, .bool clr, .bool sec, .int .i64 idx] 23)).alloc (.cells #[.int .i64 k0, .bool s0, .int .i64 k1, .bool s1, .int .i64 k2, .bool s2, .int .i64 k3, .bool s3, .int .i64 k4, .bool s4] 26)).cell? ⟨w.heap.size + 1, 6, none⟩ = some (.int .i64 k3) := by go_simp
    have zW011 : ((w.alloc (.cells #[.bool false, .bool clr, .bool sec, .int .i64 idx] 23)).alloc (.cells #[.int .i64 k0, .bool s0, .int .i64 k1, .bool s1, .int .i64 k2, .bool s2, .int .i64 k3, .bool s3, .int .i64 k4, .bool s4] 26)).cell? ⟨w.heap.size + 1, 7, none⟩ = some (.bool s3) := by go_simp
    have zW012 : ((w.alloc (.cells #[.bool false, .bool clr, .bool sec, .int .i64 idx] 23)).alloc (.cells #[.int .i64 k0, .bool s0, .int .i64 k1, .bool s1, .int .i64 k2, .bool s2, .int .i64 k3, .bool s3, .int .i64 k4, .bool s4] 26)).cell? ⟨w.heap.size + 1, 8, none⟩ = some (.int .i64 k4) := by go_simp
    have zW013 : ((w.alloc (.cells #[.bool false, .bool clr, .bool sec, .int .i64 idx] 23)).alloc (.cells #[.int .i64 k0, .bool s0, .int .i64 k1, .bool s1, .int .i64 k2, .bool s2, .int .i64 k3, .bool s3, .int .i64 k4, .bool s4] 26)).cell? ⟨w.heap.size + 1, 9, none⟩ = some (.bool s4) := by go_simp
    generalize ((w.alloc (.cells #[.bool false, .bool clr, .bool sec, .int .i64 idx] 23)).alloc (.cells #[.int .i64 k0, .bool s0, .int .i64 k1, .bool s1, .int .i64 k2, .bool s2, .int .i64 k3, .bool s3, .int .i64 k4, .bool s4] 26)) = W0 at *
    go_region_held3 (fun w' => Up W0 w' ∧ ∀ b o, b < W0.heap.size → w'.cell? ⟨b, o, none⟩ = W0.cell? ⟨b, o, none⟩) (first | exact ⟨by assumption, by assumption⟩ | go_keep) (first | (go_at_call 6; refine (HA.out _ _).mono ?_; rintro e w3 ⟨rfl, hB3⟩; have hU3 : Up W0 w3 := (by first | exact Up.trans (by assumption) hB3 | exact Up.trans (Up.drew (Up.refl W0)) hB3); have hc3 : ∀ b o, b < W0.heap.size → w3.cell? ⟨b, o, none⟩ = W0.cell? ⟨b, o, none⟩ := (fun b o hb => hU3.cell hb)))
    obtain ⟨hU4, hc4⟩ := ‹Up W0 w3 ∧ _›
    have y5 : w.heap.size < w3.heap.size := by have := hU4.size; omega
    have z5 : w3.cell? ⟨w.heap.size, 0, none⟩ = some (.bool false) := (hc4 _ _ yW00).trans zW00
    have hU5 : Up w w3 := hU_W0.trans hU4
    have y6 : w.heap.size < w3.heap.size + 1 := by omega
    have y7 : w.heap.size < w3.heap.size + 1 + 1 := by omega
    generalize w3 = W1 at *
    clear hc4 hU4
    clear zW00 zW01 zW02 zW03 zW04 zW05 zW06 zW07 zW08 zW09 zW010 zW011 zW012 zW013 yW00 yW01
    go_wp2_with fail
    refine (HR.out _ _).mono ?_; rintro e w5 ⟨rfl, hU6⟩
    obtain ⟨hc6, hf6, _⟩ := hU6.facts
    go_wp2_with fail
    refine (HR.out _ _).mono ?_; rintro e w6 ⟨rfl, hU7⟩
    go_wp2_with fail
    go_ret
    exact ⟨ret_bool rfl, (((((hU5.alloc _).alloc _).alloc _).trans hU6).trans hU7)⟩
  · have HR := Lib.hid (show ∀ (x : Int) w, Calls Try.prog 6 #[.agg #[.bool false, .bool false, .bool false, .int .i64 2], .agg #[.int .i64 0, .bool false, .int .i64 0, .bool false, .int .i64 x, .bool false, .int .i64 0, .bool false, .int .i64 0, .bool false], .bool true] w (fun e w' => e = .returned (.int .i64 (191 - x % 65536 % 16)) ∧ Up w w') from fun x w => (show vRd false false 2 0 false 0 false x false 0 false 0 false true = 191 - x % 65536 % 16 by simp [vRd, vBase, vPr]) ▸ read_any _ _ _ _ _ _ _ _ _ _ _ _ _ _ _ w)
    have hn : bits .andNot .i64 191 2 = 189 := by decide +kernel
    go_enter Try.func3, Try.ntmps3
    go_wp2_with fail
    have hU_W0 : Up w ((w.alloc (.cells #[.bool false, .bool clr, .bool sec, .int .i64 idx] 23)).alloc (.cells #[.int .i64 k0, .bool s0, .int .i64 k1, .bool s1, .int .i64 k2, .bool s2, .int .i64 k3, .bool s3, .int .i64 k4, .bool s4] 26)) := ((Up.refl w).alloc _).alloc _
    have yW00 : w.heap.size < ((w.alloc (.cells #[.bool false, .bool clr, .bool sec, .int .i64 idx] 23)).alloc (.cells #[.int .i64 k0, .bool s0, .int .i64 k1, .bool s1, .int .i64 k2, .bool s2, .int .i64 k3, .bool s3, .int .i64 k4, .bool s4] 26)).heap.size := by (try simp only [World.size_alloc]); omega
    have zW00 : ((w.alloc (.cells #[.bool false, .bool clr, .bool sec, .int .i64 idx] 23)).alloc (.cells #[.int .i64 k0, .bool s0, .int .i64 k1, .bool s1, .int .i64 k2, .bool s2, .int .i64 k3, .bool s3, .int .i64 k4, .bool s4] 26)).cell? ⟨w.heap.size, 0, none⟩ = some (.bool false) := by go_simp
    have zW01 : ((w.alloc (.cells #[.bool false, .bool clr, .bool sec, .int .i64 idx] 23)).alloc (.cells #[.int .i64 k0, .bool s0, .int .i64 k1, .bool s1, .int .i64 k2, .bool s2, .int .i64 k3, .bool s3, .int .i64 k4, .bool s4] 26)).cell? ⟨w.heap.size, 1, none⟩ = some (.bool clr) := by go_simp
    have zW02 : ((w.alloc (.cells #[.bool false, .bool clr, .bool sec, .int .i64 idx] 23)).alloc (.cells #[.int .i64 k0, .bool s0, .int .i64 k1, .bool s1, .int .i64 k2, .bool s2, .int .i64 k3, .bool s3, .int .i64 k4, .bool s4] 26)).cell? ⟨w.heap.size, 2, none⟩ = some (.bool sec) := by go_simp
    have zW03 : ((w.alloc (.cells #[.bool false, .bool clr, .bool sec, .int .i64 idx] 23)).alloc (.cells #[.int .i64 k0, .bool s0, .int .i64 k1, .bool s1, .int .i64 k2, .bool s2, .int .i64 k3, .bool s3, .int .i64 k4, .bool s4] 26)).cell? ⟨w.heap.size, 3, none⟩ = some (.int .i64 idx) := by go_simp
    have yW01 : w.heap.size + 1 < ((w.alloc (.cells #[.bool false, .bool clr, .bool sec, .int .i64 idx] 23)).alloc (.cells #[.int .i64 k0, .bool s0, .int .i64 k1, .bool s1, .int .i64 k2, .bool s2, .int .i64 k3, .bool s3, .int .i64 k4, .bool s4] 26)).heap.size := by (try simp only [World.size_alloc]); omega
    have zW04 : ((w.alloc (.cells #[.bool false, .bool clr, .bool sec, .int .i64 idx] 23)).alloc (.cells #[.int .i64 k0, .bool s0, .int .i64 k1, .bool s1, .int .i64 k2, .bool s2, .int .i64 k3, .bool s3, .int .i64 k4, .bool s4] 26)).cell? ⟨w.heap.size + 1, 0, none⟩ = some (.int .i64 k0) := by go_simp
    have zW05 : ((w.alloc (.cells #[.bool false, .bool clr, .bool sec, .int .i64 idx] 23)).alloc (.cells #[.int .i64 k0, .bool s0, .int .i64 k1, .bool s1, .int .i64 k2, .bool s2, .int .i64 k3, .bool s3, .int .i64 k4, .bool s4] 26)).cell? ⟨w.heap.size + 1, 1, none⟩ = some (.bool s0) := by go_simp
    have zW06 : ((w.alloc (.cells #[.bool false, .bool clr, .bool sec, .int .i64 idx] 23)).alloc (.cells #[.int .i64 k0, .bool s0, .int .i64 k1, .bool s1, .int .i64 k2, .bool s2, .int .i64 k3, .bool s3, .int .i64 k4, .bool s4] 26)).cell? ⟨w.heap.size + 1, 2, none⟩ = some (.int .i64 k1) := by go_simp
    have zW07 : ((w.alloc (.cells #[.bool false, .bool clr, .bool sec, .int .i64 idx] 23)).alloc (.cells #[.int .i64 k0, .bool s0, .int .i64 k1, .bool s1, .int .i64 k2, .bool s2, .int .i64 k3, .bool s3, .int .i64 k4, .bool s4] 26)).cell? ⟨w.heap.size + 1, 3, none⟩ = some (.bool s1) := by go_simp
    have zW08 : ((w.alloc (.cells #[.bool false, .bool clr, .bool sec, .int .i64 idx] 23)).alloc (.cells #[.int .i64 k0, .bool s0, .int .i64 k1, .bool s1, .int .i64 k2, .bool s2, .int .i64 k3, .bool s3, .int .i64 k4, .bool s4] 26)).cell? ⟨w.heap.size + 1, 4, none⟩ = some (.int .i64 k2) := by go_simp
    have zW09 : ((w.alloc (.cells #[.bool false, .bool clr, .bool sec, .int .i64 idx] 23)).alloc (.cells #[.int .i64 k0, .bool s0, .int .i64 k1, .bool s1, .int .i64 k2, .bool s2, .int .i64 k3, .bool s3, .int .i64 k4, .bool s4] 26)).cell? ⟨w.heap.size + 1, 5, none⟩ = some (.bool s2) := by go_simp
    have zW010 : ((w.alloc (.cells #[.bool false, .bool clr, .bool sec, .int .i64 idx] 23)).alloc (.cells #[.int .i64 k0, .bool s0, .int .i64 k1, .bool s1, .int .i64 k2, .bool s2, .int .i64 k3, .bool s3, .int .i64 k4, .bool s4] 26)).cell? ⟨w.heap.size + 1, 6, none⟩ = some (.int .i64 k3) := by go_simp
    have zW011 : ((w.alloc (.cells #[.bool false, .bool clr, .bool sec, .int .i64 idx] 23)).alloc (.cells #[.int .i64 k0, .bool s0, .int .i64 k1, .bool s1, .int .i64 k2, .bool s2, .int .i64 k3, .bool s3, .int .i64 k4, .bool s4] 26)).cell? ⟨w.heap.size + 1, 7, none⟩ = some (.bool s3) := by go_simp
    have zW012 : ((w.alloc (.cells #[.bool false, .bool clr, .bool sec, .int .i64 idx] 23)).alloc (.cells #[.int .i64 k0, .bool s0, .int .i64 k1, .bool s1, .int .i64 k2, .bool s2, .int .i64 k3, .bool s3, .int .i64 k4, .bool s4] 26)).cell? ⟨w.heap.size + 1, 8, none⟩ = some (.int .i64 k4) := by go_simp
    have zW013 : ((w.alloc (.cells #[.bool false, .bool clr, .bool sec, .int .i64 idx] 23)).alloc (.cells #[.int .i64 k0, .bool s0, .int .i64 k1, .bool s1, .int .i64 k2, .bool s2, .int .i64 k3, .bool s3, .int .i64 k4, .bool s4] 26)).cell? ⟨w.heap.size + 1, 9, none⟩ = some (.bool s4) := by go_simp
    generalize ((w.alloc (.cells #[.bool false, .bool clr, .bool sec, .int .i64 idx] 23)).alloc (.cells #[.int .i64 k0, .bool s0, .int .i64 k1, .bool s1, .int .i64 k2, .bool s2, .int .i64 k3, .bool s3, .int .i64 k4, .bool s4] 26)) = W0 at *
    go_region_held3 (fun w' => Up W0 w' ∧ ∀ b o, b < W0.heap.size → w'.cell? ⟨b, o, none⟩ = W0.cell? ⟨b, o, none⟩) (first | exact ⟨by assumption, by assumption⟩ | go_keep) (first | (go_at_call 6; refine (HA.out _ _).mono ?_; rintro e w3 ⟨rfl, hB3⟩; have hU3 : Up W0 w3 := (by first | exact Up.trans (by assumption) hB3 | exact Up.trans (Up.drew (Up.refl W0)) hB3); have hc3 : ∀ b o, b < W0.heap.size → w3.cell? ⟨b, o, none⟩ = W0.cell? ⟨b, o, none⟩ := (fun b o hb => hU3.cell hb)))
    obtain ⟨hU4, hc4⟩ := ‹Up W0 w3 ∧ _›
    have y5 : w.heap.size < w3.heap.size := by have := hU4.size; omega
    have z5 : w3.cell? ⟨w.heap.size, 0, none⟩ = some (.bool false) := (hc4 _ _ yW00).trans zW00
    have hU5 : Up w w3 := hU_W0.trans hU4
    have y6 : w.heap.size < w3.heap.size + 1 := by omega
    have y7 : w.heap.size < w3.heap.size + 1 + 1 := by omega
    generalize w3 = W1 at *
    clear hc4 hU4
    clear zW00 zW01 zW02 zW03 zW04 zW05 zW06 zW07 zW08 zW09 zW010 zW011 zW012 zW013 yW00 yW01
    go_wp2_with fail
    refine (HR.out _ _).mono ?_; rintro e w5 ⟨rfl, hU6⟩
    obtain ⟨hc6, hf6, _⟩ := hU6.facts
    go_wp2_with fail
    refine (HR.out _ _).mono ?_; rintro e w6 ⟨rfl, hU7⟩
    go_wp2_with fail
    go_ret
    exact ⟨ret_bool rfl, (((((hU5.alloc _).alloc _).alloc _).trans hU6).trans hU7)⟩
  · have HR := Lib.hid (show ∀ (x : Int) w, Calls Try.prog 6 #[.agg #[.bool false, .bool false, .bool false, .int .i64 2], .agg #[.int .i64 0, .bool false, .int .i64 0, .bool false, .int .i64 x, .bool false, .int .i64 0, .bool false, .int .i64 0, .bool false], .bool true] w (fun e w' => e = .returned (.int .i64 (191 - x % 65536 % 16)) ∧ Up w w') from fun x w => (show vRd false false 2 0 false 0 false x false 0 false 0 false true = 191 - x % 65536 % 16 by simp [vRd, vBase, vPr]) ▸ read_any _ _ _ _ _ _ _ _ _ _ _ _ _ _ _ w)
    have hn : bits .andNot .i64 191 4 = 187 := by decide +kernel
    go_enter Try.func3, Try.ntmps3
    go_wp2_with fail
    have hU_W0 : Up w ((w.alloc (.cells #[.bool false, .bool clr, .bool sec, .int .i64 idx] 23)).alloc (.cells #[.int .i64 k0, .bool s0, .int .i64 k1, .bool s1, .int .i64 k2, .bool s2, .int .i64 k3, .bool s3, .int .i64 k4, .bool s4] 26)) := ((Up.refl w).alloc _).alloc _
    have yW00 : w.heap.size < ((w.alloc (.cells #[.bool false, .bool clr, .bool sec, .int .i64 idx] 23)).alloc (.cells #[.int .i64 k0, .bool s0, .int .i64 k1, .bool s1, .int .i64 k2, .bool s2, .int .i64 k3, .bool s3, .int .i64 k4, .bool s4] 26)).heap.size := by (try simp only [World.size_alloc]); omega
    have zW00 : ((w.alloc (.cells #[.bool false, .bool clr, .bool sec, .int .i64 idx] 23)).alloc (.cells #[.int .i64 k0, .bool s0, .int .i64 k1, .bool s1, .int .i64 k2, .bool s2, .int .i64 k3, .bool s3, .int .i64 k4, .bool s4] 26)).cell? ⟨w.heap.size, 0, none⟩ = some (.bool false) := by go_simp
    have zW01 : ((w.alloc (.cells #[.bool false, .bool clr, .bool sec, .int .i64 idx] 23)).alloc (.cells #[.int .i64 k0, .bool s0, .int .i64 k1, .bool s1, .int .i64 k2, .bool s2, .int .i64 k3, .bool s3, .int .i64 k4, .bool s4] 26)).cell? ⟨w.heap.size, 1, none⟩ = some (.bool clr) := by go_simp
    have zW02 : ((w.alloc (.cells #[.bool false, .bool clr, .bool sec, .int .i64 idx] 23)).alloc (.cells #[.int .i64 k0, .bool s0, .int .i64 k1, .bool s1, .int .i64 k2, .bool s2, .int .i64 k3, .bool s3, .int .i64 k4, .bool s4] 26)).cell? ⟨w.heap.size, 2, none⟩ = some (.bool sec) := by go_simp
    have zW03 : ((w.alloc (.cells #[.bool false, .bool clr, .bool sec, .int .i64 idx] 23)).alloc (.cells #[.int .i64 k0, .bool s0, .int .i64 k1, .bool s1, .int .i64 k2, .bool s2, .int .i64 k3, .bool s3, .int .i64 k4, .bool s4] 26)).cell? ⟨w.heap.size, 3, none⟩ = some (.int .i64 idx) := by go_simp
    have yW01 : w.heap.size + 1 < ((w.alloc (.cells #[.bool false, .bool clr, .bool sec, .int .i64 idx] 23)).alloc (.cells #[.int .i64 k0, .bool s0, .int .i64 k1, .bool s1, .int .i64 k2, .bool s2, .int .i64 k3, .bool s3, .int .i64 k4, .bool s4] 26)).heap.size := by (try simp only [World.size_alloc]); omega
    have zW04 : ((w.alloc (.cells #[.bool false, .bool clr, .bool sec, .int .i64 idx] 23)).alloc (.cells #[.int .i64 k0, .bool s0, .int .i64 k1, .bool s1, .int .i64 k2, .bool s2, .int .i64 k3, .bool s3, .int .i64 k4, .bool s4] 26)).cell? ⟨w.heap.size + 1, 0, none⟩ = some (.int .i64 k0) := by go_simp
    have zW05 : ((w.alloc (.cells #[.bool false, .bool clr, .bool sec, .int .i64 idx] 23)).alloc (.cells #[.int .i64 k0, .bool s0, .int .i64 k1, .bool s1, .int .i64 k2, .bool s2, .int .i64 k3, .bool s3, .int .i64 k4, .bool s4] 26)).cell? ⟨w.heap.size + 1, 1, none⟩ = some (.bool s0) := by go_simp
    have zW06 : ((w.alloc (.cells #[.bool false, .bool clr, .bool sec, .int .i64 idx] 23)).alloc (.cells #[.int .i64 k0, .bool s0, .int .i64 k1, .bool s1, .int .i64 k2, .bool s2, .int .i64 k3, .bool s3, .int .i64 k4, .bool s4] 26)).cell? ⟨w.heap.size + 1, 2, none⟩ = some (.int .i64 k1) := by go_simp
    have zW07 : ((w.alloc (.cells #[.bool false, .bool clr, .bool sec, .int .i64 idx] 23)).alloc (.cells #[.int .i64 k0, .bool s0, .int .i64 k1, .bool s1, .int .i64 k2, .bool s2, .int .i64 k3, .bool s3, .int .i64 k4, .bool s4] 26)).cell? ⟨w.heap.size + 1, 3, none⟩ = some (.bool s1) := by go_simp
    have zW08 : ((w.alloc (.cells #[.bool false, .bool clr, .bool sec, .int .i64 idx] 23)).alloc (.cells #[.int .i64 k0, .bool s0, .int .i64 k1, .bool s1, .int .i64 k2, .bool s2, .int .i64 k3, .bool s3, .int .i64 k4, .bool s4] 26)).cell? ⟨w.heap.size + 1, 4, none⟩ = some (.int .i64 k2) := by go_simp
    have zW09 : ((w.alloc (.cells #[.bool false, .bool clr, .bool sec, .int .i64 idx] 23)).alloc (.cells #[.int .i64 k0, .bool s0, .int .i64 k1, .bool s1, .int .i64 k2, .bool s2, .int .i64 k3, .bool s3, .int .i64 k4, .bool s4] 26)).cell? ⟨w.heap.size + 1, 5, none⟩ = some (.bool s2) := by go_simp
    have zW010 : ((w.alloc (.cells #[.bool false, .bool clr, .bool sec, .int .i64 idx] 23)).alloc (.cells #[.int .i64 k0, .bool s0, .int .i64 k1, .bool s1, .int .i64 k2, .bool s2, .int .i64 k3, .bool s3, .int .i64 k4, .bool s4] 26)).cell? ⟨w.heap.size + 1, 6, none⟩ = some (.int .i64 k3) := by go_simp
    have zW011 : ((w.alloc (.cells #[.bool false, .bool clr, .bool sec, .int .i64 idx] 23)).alloc (.cells #[.int .i64 k0, .bool s0, .int .i64 k1, .bool s1, .int .i64 k2, .bool s2, .int .i64 k3, .bool s3, .int .i64 k4, .bool s4] 26)).cell? ⟨w.heap.size + 1, 7, none⟩ = some (.bool s3) := by go_simp
    have zW012 : ((w.alloc (.cells #[.bool false, .bool clr, .bool sec, .int .i64 idx] 23)).alloc (.cells #[.int .i64 k0, .bool s0, .int .i64 k1, .bool s1, .int .i64 k2, .bool s2, .int .i64 k3, .bool s3, .int .i64 k4, .bool s4] 26)).cell? ⟨w.heap.size + 1, 8, none⟩ = some (.int .i64 k4) := by go_simp
    have zW013 : ((w.alloc (.cells #[.bool false, .bool clr, .bool sec, .int .i64 idx] 23)).alloc (.cells #[.int .i64 k0, .bool s0, .int .i64 k1, .bool s1, .int .i64 k2, .bool s2, .int .i64 k3, .bool s3, .int .i64 k4, .bool s4] 26)).cell? ⟨w.heap.size + 1, 9, none⟩ = some (.bool s4) := by go_simp
    generalize ((w.alloc (.cells #[.bool false, .bool clr, .bool sec, .int .i64 idx] 23)).alloc (.cells #[.int .i64 k0, .bool s0, .int .i64 k1, .bool s1, .int .i64 k2, .bool s2, .int .i64 k3, .bool s3, .int .i64 k4, .bool s4] 26)) = W0 at *
    go_region_held3 (fun w' => Up W0 w' ∧ ∀ b o, b < W0.heap.size → w'.cell? ⟨b, o, none⟩ = W0.cell? ⟨b, o, none⟩) (first | exact ⟨by assumption, by assumption⟩ | go_keep) (first | (go_at_call 6; refine (HA.out _ _).mono ?_; rintro e w3 ⟨rfl, hB3⟩; have hU3 : Up W0 w3 := (by first | exact Up.trans (by assumption) hB3 | exact Up.trans (Up.drew (Up.refl W0)) hB3); have hc3 : ∀ b o, b < W0.heap.size → w3.cell? ⟨b, o, none⟩ = W0.cell? ⟨b, o, none⟩ := (fun b o hb => hU3.cell hb)))
    obtain ⟨hU4, hc4⟩ := ‹Up W0 w3 ∧ _›
    have y5 : w.heap.size < w3.heap.size := by have := hU4.size; omega
    have z5 : w3.cell? ⟨w.heap.size, 0, none⟩ = some (.bool false) := (hc4 _ _ yW00).trans zW00
    have hU5 : Up w w3 := hU_W0.trans hU4
    have y6 : w.heap.size < w3.heap.size + 1 := by omega
    have y7 : w.heap.size < w3.heap.size + 1 + 1 := by omega
    generalize w3 = W1 at *
    clear hc4 hU4
    clear zW00 zW01 zW02 zW03 zW04 zW05 zW06 zW07 zW08 zW09 zW010 zW011 zW012 zW013 yW00 yW01
    go_wp2_with fail
    refine (HR.out _ _).mono ?_; rintro e w5 ⟨rfl, hU6⟩
    obtain ⟨hc6, hf6, _⟩ := hU6.facts
    go_wp2_with fail
    refine (HR.out _ _).mono ?_; rintro e w6 ⟨rfl, hU7⟩
    go_wp2_with fail
    go_ret
    exact ⟨ret_bool rfl, (((((hU5.alloc _).alloc _).alloc _).trans hU6).trans hU7)⟩
  · have HR := Lib.hid (show ∀ (x : Int) w, Calls Try.prog 6 #[.agg #[.bool false, .bool false, .bool false, .int .i64 2], .agg #[.int .i64 0, .bool false, .int .i64 0, .bool false, .int .i64 x, .bool false, .int .i64 0, .bool false, .int .i64 0, .bool false], .bool true] w (fun e w' => e = .returned (.int .i64 (191 - x % 65536 % 16)) ∧ Up w w') from fun x w => (show vRd false false 2 0 false 0 false x false 0 false 0 false true = 191 - x % 65536 % 16 by simp [vRd, vBase, vPr]) ▸ read_any _ _ _ _ _ _ _ _ _ _ _ _ _ _ _ w)
    have hn : bits .andNot .i64 191 8 = 183 := by decide +kernel
    go_enter Try.func3, Try.ntmps3
    go_wp2_with fail
    have hU_W0 : Up w ((w.alloc (.cells #[.bool false, .bool clr, .bool sec, .int .i64 idx] 23)).alloc (.cells #[.int .i64 k0, .bool s0, .int .i64 k1, .bool s1, .int .i64 k2, .bool s2, .int .i64 k3, .bool s3, .int .i64 k4, .bool s4] 26)) := ((Up.refl w).alloc _).alloc _
    have yW00 : w.heap.size < ((w.alloc (.cells #[.bool false, .bool clr, .bool sec, .int .i64 idx] 23)).alloc (.cells #[.int .i64 k0, .bool s0, .int .i64 k1, .bool s1, .int .i64 k2, .bool s2, .int .i64 k3, .bool s3, .int .i64 k4, .bool s4] 26)).heap.size := by (try simp only [World.size_alloc]); omega
    have zW00 : ((w.alloc (.cells #[.bool false, .bool clr, .bool sec, .int .i64 idx] 23)).alloc (.cells #[.int .i64 k0, .bool s0, .int .i64 k1, .bool s1, .int .i64 k2, .bool s2, .int .i64 k3, .bool s3, .int .i64 k4, .bool s4] 26)).cell? ⟨w.heap.size, 0, none⟩ = some (.bool false) := by go_simp
    have zW01 : ((w.alloc (.cells #[.bool false, .bool clr, .bool sec, .int .i64 idx] 23)).alloc (.cells #[.int .i64 k0, .bool s0, .int .i64 k1, .bool s1, .int .i64 k2, .bool s2, .int .i64 k3, .bool s3, .int .i64 k4, .bool s4] 26)).cell? ⟨w.heap.size, 1, none⟩ = some (.bool clr) := by go_simp
    have zW02 : ((w.alloc (.cells #[.bool false, .bool clr, .bool sec, .int .i64 idx] 23)).alloc (.cells #[.int .i64 k0, .bool s0, .int .i64 k1, .bool s1, .int .i64 k2, .bool s2, .int .i64 k3, .bool s3, .int .i64 k4, .bool s4] 26)).cell? ⟨w.heap.size, 2, none⟩ = some (.bool sec) := by go_simp
    have zW03 : ((w.alloc (.cells #[.bool false, .bool clr, .bool sec, .int .i64 idx] 23)).alloc (.cells #[.int .i64 k0, .bool s0, .int .i64 k1, .bool s1, .int .i64 k2, .bool s2, .int .i64 k3, .bool s3, .int .i64 k4, .bool s4] 26)).cell? ⟨w.heap.size, 3, none⟩ = some (.int .i64 idx) := by go_simp
    have yW01 : w.heap.size + 1 < ((w.alloc (.cells #[.bool false, .bool clr, .bool sec, .int .i64 idx] 23)).alloc (.cells #[.int .i64 k0, .bool s0, .int .i64 k1, .bool s1, .int .i64 k2, .bool s2, .int .i64 k3, .bool s3, .int .i64 k4, .bool s4] 26)).heap.size := by (try simp only [World.size_alloc]); omega
    have zW04 : ((w.alloc (.cells #[.bool false, .bool clr, .bool sec, .int .i64 idx] 23)).alloc (.cells #[.int .i64 k0, .bool s0, .int .i64 k1, .bool s1, .int .i64 k2, .bool s2, .int .i64 k3, .bool s3, .int .i64 k4, .bool s4] 26)).cell? ⟨w.heap.size + 1, 0, none⟩ = some (.int .i64 k0) := by go_simp
    have zW05 : ((w.alloc (.cells #[.bool false, .bool clr, .bool sec, .int .i64 idx] 23)).alloc (.cells #[.int .i64 k0, .bool s0, .int .i64 k1, .bool s1, .int .i64 k2, .bool s2, .int .i64 k3, .bool s3, .int .i64 k4, .bool s4] 26)).cell? ⟨w.heap.size + 1, 1, none⟩ = some (.bool s0) := by go_simp
    have zW06 : ((w.alloc (.cells #[.bool false, .bool clr, .bool sec, .int .i64 idx] 23)).alloc (.cells #[.int .i64 k0, .bool s0, .int .i64 k1, .bool s1, .int .i64 k2, .bool s2, .int .i64 k3, .bool s3, .int .i64 k4, .bool s4] 26)).cell? ⟨w.heap.size + 1, 2, none⟩ = some (.int .i64 k1) := by go_simp
    have zW07 : ((w.alloc (.cells #[.bool false, .bool clr, .bool sec, .int .i64 idx] 23)).alloc (.cells #[.int .i64 k0, .bool s0, .int .i64 k1, .bool s1, .int .i64 k2, .bool s2, .int .i64 k3, .bool s3, .int .i64 k4, .bool s4] 26)).cell? ⟨w.heap.size + 1, 3, none⟩ = some (.bool s1) := by go_simp
    have zW08 : ((w.alloc (.cells #[.bool false, .bool clr, .bool sec, .int .i64 idx] 23)).alloc (.cells #[.int .i64 k0, .bool s0, .int .i64 k1, .bool s1, .int .i64 k2, .bool s2, .int .i64 k3, .bool s3, .int .i64 k4, .bool s4] 26)).cell? ⟨w.heap.size + 1, 4, none⟩ = some (.int .i64 k2) := by go_simp
    have zW09 : ((w.alloc (.cells #[.bool false, .bool clr, .bool sec, .int .i64 idx] 23)).alloc (.cells #[.int .i64 k0, .bool s0, .int .i64 k1, .bool s1, .int .i64 k2, .bool s2, .int .i64 k3, .bool s3, .int .i64 k4, .bool s4] 26)).cell? ⟨w.heap.size + 1, 5, none⟩ = some (.bool s2) := by go_simp
    have zW010 : ((w.alloc (.cells #[.bool false, .bool clr, .bool sec, .int .i64 idx] 23)).alloc (.cells #[.int .i64 k0, .bool s0, .int .i64 k1, .bool s1, .int .i64 k2, .bool s2, .int .i64 k3, .bool s3, .int .i64 k4, .bool s4] 26)).cell? ⟨w.heap.size + 1, 6, none⟩ = some (.int .i64 k3) := by go_simp
    have zW011 : ((w.alloc (.cells #[.bool false, .bool clr, .bool sec, .int .i64 idx] 23)).alloc (.cells #[.int .i64 k0, .bool s0, .int .i64 k1, .bool s1, .int .i64 k2, .bool s2, .int .i64 k3, .bool s3, .int .i64 k4, .bool s4] 26)).cell? ⟨w.heap.size + 1, 7, none⟩ = some (.bool s3) := by go_simp
    have zW012 : ((w.alloc (.cells #[.bool false, .bool clr, .bool sec, .int .i64 idx] 23)).alloc (.cells #[.int .i64 k0, .bool s0, .int .i64 k1, .bool s1, .int .i64 k2, .bool s2, .int .i64 k3, .bool s3, .int .i64 k4, .bool s4] 26)).cell? ⟨w.heap.size + 1, 8, none⟩ = some (.int .i64 k4) := by go_simp
    have zW013 : ((w.alloc (.cells #[.bool false, .bool clr, .bool sec, .int .i64 idx] 23)).alloc (.cells #[.int .i64 k0, .bool s0, .int .i64 k1, .bool s1, .int .i64 k2, .bool s2, .int .i64 k3, .bool s3, .int .i64 k4, .bool s4] 26)).cell? ⟨w.heap.size + 1, 9, none⟩ = some (.bool s4) := by go_simp
    generalize ((w.alloc (.cells #[.bool false, .bool clr, .bool sec, .int .i64 idx] 23)).alloc (.cells #[.int .i64 k0, .bool s0, .int .i64 k1, .bool s1, .int .i64 k2, .bool s2, .int .i64 k3, .bool s3, .int .i64 k4, .bool s4] 26)) = W0 at *
    go_region_held3 (fun w' => Up W0 w' ∧ ∀ b o, b < W0.heap.size → w'.cell? ⟨b, o, none⟩ = W0.cell? ⟨b, o, none⟩) (first | exact ⟨by assumption, by assumption⟩ | go_keep) (first | (go_at_call 6; refine (HA.out _ _).mono ?_; rintro e w3 ⟨rfl, hB3⟩; have hU3 : Up W0 w3 := (by first | exact Up.trans (by assumption) hB3 | exact Up.trans (Up.drew (Up.refl W0)) hB3); have hc3 : ∀ b o, b < W0.heap.size → w3.cell? ⟨b, o, none⟩ = W0.cell? ⟨b, o, none⟩ := (fun b o hb => hU3.cell hb)))
    obtain ⟨hU4, hc4⟩ := ‹Up W0 w3 ∧ _›
    have y5 : w.heap.size < w3.heap.size := by have := hU4.size; omega
    have z5 : w3.cell? ⟨w.heap.size, 0, none⟩ = some (.bool false) := (hc4 _ _ yW00).trans zW00
    have hU5 : Up w w3 := hU_W0.trans hU4
    have y6 : w.heap.size < w3.heap.size + 1 := by omega
    have y7 : w.heap.size < w3.heap.size + 1 + 1 := by omega
    generalize w3 = W1 at *
    clear hc4 hU4
    clear zW00 zW01 zW02 zW03 zW04 zW05 zW06 zW07 zW08 zW09 zW010 zW011 zW012 zW013 yW00 yW01
    go_wp2_with fail
    refine (HR.out _ _).mono ?_; rintro e w5 ⟨rfl, hU6⟩
    obtain ⟨hc6, hf6, _⟩ := hU6.facts
    go_wp2_with fail
    refine (HR.out _ _).mono ?_; rintro e w6 ⟨rfl, hU7⟩
    go_wp2_with fail
    go_ret
    exact ⟨ret_bool rfl, (((((hU5.alloc _).alloc _).alloc _).trans hU6).trans hU7)⟩
  rcases hK with hK | hK | hK | hK
  · have HR := Lib.hid (show ∀ (x : Int) w, Calls Try.prog 6 #[.agg #[.bool true, .bool false, .bool false, .int .i64 2], .agg #[.int .i64 0, .bool false, .int .i64 0, .bool false, .int .i64 x, .bool false, .int .i64 0, .bool false, .int .i64 0, .bool false], .bool true] w (fun e w' => e = .returned (.int .i64 (191 - x % 65536 / 16 % 16)) ∧ Up w w') from fun x w => (show vRd true false 2 0 false 0 false x false 0 false 0 false true = 191 - x % 65536 / 16 % 16 by simp [vRd, vBase, vPr]) ▸ read_any _ _ _ _ _ _ _ _ _ _ _ _ _ _ _ w)
    have hn : bits .andNot .i64 191 1 = 190 := by decide +kernel
    go_enter Try.func3, Try.ntmps3
    go_wp2_with fail
    have hU_W0 : Up w ((w.alloc (.cells #[.bool true, .bool clr, .bool sec, .int .i64 idx] 23)).alloc (.cells #[.int .i64 k0, .bool s0, .int .i64 k1, .bool s1, .int .i64 k2, .bool s2, .int .i64 k3, .bool s3, .int .i64 k4, .bool s4] 26)) := ((Up.refl w).alloc _).alloc _
    have yW00 : w.heap.size < ((w.alloc (.cells #[.bool true, .bool clr, .bool sec, .int .i64 idx] 23)).alloc (.cells #[.int .i64 k0, .bool s0, .int .i64 k1, .bool s1, .int .i64 k2, .bool s2, .int .i64 k3, .bool s3, .int .i64 k4, .bool s4] 26)).heap.size := by (try simp only [World.size_alloc]); omega
    have zW00 : ((w.alloc (.cells #[.bool true, .bool clr, .bool sec, .int .i64 idx] 23)).alloc (.cells #[.int .i64 k0, .bool s0, .int .i64 k1, .bool s1, .int .i64 k2, .bool s2, .int .i64 k3, .bool s3, .int .i64 k4, .bool s4] 26)).cell? ⟨w.heap.size, 0, none⟩ = some (.bool true) := by go_simp
    have zW01 : ((w.alloc (.cells #[.bool true, .bool clr, .bool sec, .int .i64 idx] 23)).alloc (.cells #[.int .i64 k0, .bool s0, .int .i64 k1, .bool s1, .int .i64 k2, .bool s2, .int .i64 k3, .bool s3, .int .i64 k4, .bool s4] 26)).cell? ⟨w.heap.size, 1, none⟩ = some (.bool clr) := by go_simp
    have zW02 : ((w.alloc (.cells #[.bool true, .bool clr, .bool sec, .int .i64 idx] 23)).alloc (.cells #[.int .i64 k0, .bool s0, .int .i64 k1, .bool s1, .int .i64 k2, .bool s2, .int .i64 k3, .bool s3, .int .i64 k4, .bool s4] 26)).cell? ⟨w.heap.size, 2, none⟩ = some (.bool sec) := by go_simp
    have zW03 : ((w.alloc (.cells #[.bool true, .bool clr, .bool sec, .int .i64 idx] 23)).alloc (.cells #[.int .i64 k0, .bool s0, .int .i64 k1, .bool s1, .int .i64 k2, .bool s2, .int .i64 k3, .bool s3, .int .i64 k4, .bool s4] 26)).cell? ⟨w.heap.size, 3, none⟩ = some (.int .i64 idx) := by go_simp
    have yW01 : w.heap.size + 1 < ((w.alloc (.cells #[.bool true, .bool clr, .bool sec, .int .i64 idx] 23)).alloc (.cells #[.int .i64 k0, .bool s0, .int .i64 k1, .bool s1, .int .i64 k2, .bool s2, .int .i64 k3, .bool s3, .int .i64 k4, .bool s4] 26)).heap.size := by (try simp only [World.size_alloc]); omega
    have zW04 : ((w.alloc (.cells #[.bool true, .bool clr, .bool sec, .int .i64 idx] 23)).alloc (.cells #[.int .i64 k0, .bool s0, .int .i64 k1, .bool s1, .int .i64 k2, .bool s2, .int .i64 k3, .bool s3, .int .i64 k4, .bool s4] 26)).cell? ⟨w.heap.size + 1, 0, none⟩ = some (.int .i64 k0) := by go_simp
    have zW05 : ((w.alloc (.cells #[.bool true, .bool clr, .bool sec, .int .i64 idx] 23)).alloc (.cells #[.int .i64 k0, .bool s0, .int .i64 k1, .bool s1, .int .i64 k2, .bool s2, .int .i64 k3, .bool s3, .int .i64 k4, .bool s4] 26)).cell? ⟨w.heap.size + 1, 1, none⟩ = some (.bool s0) := by go_simp
    have zW06 : ((w.alloc (.cells #[.bool true, .bool clr, .bool sec, .int .i64 idx] 23)).alloc (.cells #[.int .i64 k0, .bool s0, .int .i64 k1, .bool s1, .int .i64 k2, .bool s2, .int .i64 k3, .bool s3, .int .i64 k4, .bool s4] 26)).cell? ⟨w.heap.size + 1, 2, none⟩ = some (.int .i64 k1) := by go_simp
    have zW07 : ((w.alloc (.cells #[.bool true, .bool clr, .bool sec, .int .i64 idx] 23)).alloc (.cells #[.int .i64 k0, .bool s0, .int .i64 k1, .bool s1, .int .i64 k2, .bool s2, .int .i64 k3, .bool s3, .int .i64 k4, .bool s4] 26)).cell? ⟨w.heap.size + 1, 3, none⟩ = some (.bool s1) := by go_simp
    have zW08 : ((w.alloc (.cells #[.bool true, .bool clr, .bool sec, .int .i64 idx] 23)).alloc (.cells #[.int .i64 k0, .bool s0, .int .i64 k1, .bool s1, .int .i64 k2, .bool s2, .int .i64 k3, .bool s3, .int .i64 k4, .bool s4] 26)).cell? ⟨w.heap.size + 1, 4, none⟩ = some (.int .i64 k2) := by go_simp
    have zW09 : ((w.alloc (.cells #[.bool true, .bool clr, .bool sec, .int .i64 idx] 23)).alloc (.cells #[.int .i64 k0, .bool s0, .int .i64 k1, .bool s1, .int .i64 k2, .bool s2, .int .i64 k3, .bool s3, .int .i64 k4, .bool s4] 26)).cell? ⟨w.heap.size + 1, 5, none⟩ = some (.bool s2) := by go_simp
    have zW010 : ((w.alloc (.cells #[.bool true, .bool clr, .bool sec, .int .i64 idx] 23)).alloc (.cells #[.int .i64 k0, .bool s0, .int .i64 k1, .bool s1, .int .i64 k2, .bool s2, .int .i64 k3, .bool s3, .int .i64 k4, .bool s4] 26)).cell? ⟨w.heap.size + 1, 6, none⟩ = some (.int .i64 k3) := by go_simp
    have zW011 : ((w.alloc (.cells #[.bool true, .bool clr, .bool sec, .int .i64 idx] 23)).alloc (.cells #[.int .i64 k0, .bool s0, .int .i64 k1, .bool s1, .int .i64 k2, .bool s2, .int .i64 k3, .bool s3, .int .i64 k4, .bool s4] 26)).cell? ⟨w.heap.size + 1, 7, none⟩ = some (.bool s3) := by go_simp
    have zW012 : ((w.alloc (.cells #[.bool true, .bool clr, .bool sec, .int .i64 idx] 23)).alloc (.cells #[.int .i64 k0, .bool s0, .int .i64 k1, .bool s1, .int .i64 k2, .bool s2, .int .i64 k3, .bool s3, .int .i64 k4, .bool s4] 26)).cell? ⟨w.heap.size + 1, 8, none⟩ = some (.int .i64 k4) := by go_simp
    have zW013 : ((w.alloc (.cells #[.bool true, .bool clr, .bool sec, .int .i64 idx] 23)).alloc (.cells #[.int .i64 k0, .bool s0, .int .i64 k1, .bool s1, .int .i64 k2, .bool s2, .int .i64 k3, .bool s3, .int .i64 k4, .bool s4] 26)).cell? ⟨w.heap.size + 1, 9, none⟩ = some (.bool s4) := by go_simp
    generalize ((w.alloc (.cells #[.bool true, .bool clr, .bool sec, .int .i64 idx] 23)).alloc (.cells #[.int .i64 k0, .bool s0, .int .i64 k1, .bool s1, .int .i64 k2, .bool s2, .int .i64 k3, .bool s3, .int .i64 k4, .bool s4] 26)) = W0 at *
    go_region_held3 (fun w' => Up W0 w' ∧ ∀ b o, b < W0.heap.size → w'.cell? ⟨b, o, none⟩ = W0.cell? ⟨b, o, none⟩) (first | exact ⟨by assumption, by assumption⟩ | go_keep) (first | (go_at_call 6; refine (HA.out _ _).mono ?_; rintro e w3 ⟨rfl, hB3⟩; have hU3 : Up W0 w3 := (by first | exact Up.trans (by assumption) hB3 | exact Up.trans (Up.drew (Up.refl W0)) hB3); have hc3 : ∀ b o, b < W0.heap.size → w3.cell? ⟨b, o, none⟩ = W0.cell? ⟨b, o, none⟩ := (fun b o hb => hU3.cell hb)))
    obtain ⟨hU4, hc4⟩ := ‹Up W0 w3 ∧ _›
    have y5 : w.heap.size < w3.heap.size := by have := hU4.size; omega
    have z5 : w3.cell? ⟨w.heap.size, 0, none⟩ = some (.bool true) := (hc4 _ _ yW00).trans zW00
    have hU5 : Up w w3 := hU_W0.trans hU4
    have y6 : w.heap.size < w3.heap.size + 1 := by omega
    have y7 : w.heap.size < w3.heap.size + 1 + 1 := by omega
    generalize w3 = W1 at *
    clear hc4 hU4
    clear zW00 zW01 zW02 zW03 zW04 zW05 zW06 zW07 zW08 zW09 zW010 zW011 zW012 zW013 yW00 yW01
    go_wp2_with fail
    refine (HR.out _ _).mono ?_; rintro e w5 ⟨rfl, hU6⟩
    obtain ⟨hc6, hf6, _⟩ := hU6.facts
    go_wp2_with fail
    refine (HR.out _ _).mono ?_; rintro e w6 ⟨rfl, hU7⟩
    go_wp2_with fail
    go_ret
    exact ⟨ret_bool rfl, (((((hU5.alloc _).alloc _).alloc _).trans hU6).trans hU7)⟩
  · have HR := Lib.hid (show ∀ (x : Int) w, Calls Try.prog 6 #[.agg #[.bool true, .bool false, .bool false, .int .i64 2], .agg #[.int .i64 0, .bool false, .int .i64 0, .bool false, .int .i64 x, .bool false, .int .i64 0, .bool false, .int .i64 0, .bool false], .bool true] w (fun e w' => e = .returned (.int .i64 (191 - x % 65536 / 16 % 16)) ∧ Up w w') from fun x w => (show vRd true false 2 0 false 0 false x false 0 false 0 false true = 191 - x % 65536 / 16 % 16 by simp [vRd, vBase, vPr]) ▸ read_any _ _ _ _ _ _ _ _ _ _ _ _ _ _ _ w)
    have hn : bits .andNot .i64 191 2 = 189 := by decide +kernel
    go_enter Try.func3, Try.ntmps3
    go_wp2_with fail
    have hU_W0 : Up w ((w.alloc (.cells #[.bool true, .bool clr, .bool sec, .int .i64 idx] 23)).alloc (.cells #[.int .i64 k0, .bool s0, .int .i64 k1, .bool s1, .int .i64 k2, .bool s2, .int .i64 k3, .bool s3, .int .i64 k4, .bool s4] 26)) := ((Up.refl w).alloc _).alloc _
    have yW00 : w.heap.size < ((w.alloc (.cells #[.bool true, .bool clr, .bool sec, .int .i64 idx] 23)).alloc (.cells #[.int .i64 k0, .bool s0, .int .i64 k1, .bool s1, .int .i64 k2, .bool s2, .int .i64 k3, .bool s3, .int .i64 k4, .bool s4] 26)).heap.size := by (try simp only [World.size_alloc]); omega
    have zW00 : ((w.alloc (.cells #[.bool true, .bool clr, .bool sec, .int .i64 idx] 23)).alloc (.cells #[.int .i64 k0, .bool s0, .int .i64 k1, .bool s1, .int .i64 k2, .bool s2, .int .i64 k3, .bool s3, .int .i64 k4, .bool s4] 26)).cell? ⟨w.heap.size, 0, none⟩ = some (.bool true) := by go_simp
    have zW01 : ((w.alloc (.cells #[.bool true, .bool clr, .bool sec, .int .i64 idx] 23)).alloc (.cells #[.int .i64 k0, .bool s0, .int .i64 k1, .bool s1, .int .i64 k2, .bool s2, .int .i64 k3, .bool s3, .int .i64 k4, .bool s4] 26)).cell? ⟨w.heap.size, 1, none⟩ = some (.bool clr) := by go_simp
    have zW02 : ((w.alloc (.cells #[.bool true, .bool clr, .bool sec, .int .i64 idx] 23)).alloc (.cells #[.int .i64 k0, .bool s0, .int .i64 k1, .bool s1, .int .i64 k2, .bool s2, .int .i64 k3, .bool s3, .int .i64 k4, .bool s4] 26)).cell? ⟨w.heap.size, 2, none⟩ = some (.bool sec) := by go_simp
    have zW03 : ((w.alloc (.cells #[.bool true, .bool clr, .bool sec, .int .i64 idx] 23)).alloc (.cells #[.int .i64 k0, .bool s0, .int .i64 k1, .bool s1, .int .i64 k2, .bool s2, .int .i64 k3, .bool s3, .int .i64 k4, .bool s4] 26)).cell? ⟨w.heap.size, 3, none⟩ = some (.int .i64 idx) := by go_simp
    have yW01 : w.heap.size + 1 < ((w.alloc (.cells #[.bool true, .bool clr, .bool sec, .int .i64 idx] 23)).alloc (.cells #[.int .i64 k0, .bool s0, .int .i64 k1, .bool s1, .int .i64 k2, .bool s2, .int .i64 k3, .bool s3, .int .i64 k4, .bool s4] 26)).heap.size := by (try simp only [World.size_alloc]); omega
    have zW04 : ((w.alloc (.cells #[.bool true, .bool clr, .bool sec, .int .i64 idx] 23)).alloc (.cells #[.int .i64 k0, .bool s0, .int .i64 k1, .bool s1, .int .i64 k2, .bool s2, .int .i64 k3, .bool s3, .int .i64 k4, .bool s4] 26)).cell? ⟨w.heap.size + 1, 0, none⟩ = some (.int .i64 k0) := by go_simp
    have zW05 : ((w.alloc (.cells #[.bool true, .bool clr, .bool sec, .int .i64 idx] 23)).alloc (.cells #[.int .i64 k0, .bool s0, .int .i64 k1, .bool s1, .int .i64 k2, .bool s2, .int .i64 k3, .bool s3, .int .i64 k4, .bool s4] 26)).cell? ⟨w.heap.size + 1, 1, none⟩ = some (.bool s0) := by go_simp
    have zW06 : ((w.alloc (.cells #[.bool true, .bool clr, .bool sec, .int .i64 idx] 23)).alloc (.cells #[.int .i64 k0, .bool s0, .int .i64 k1, .bool s1, .int .i64 k2, .bool s2, .int .i64 k3, .bool s3, .int .i64 k4, .bool s4] 26)).cell? ⟨w.heap.size + 1, 2, none⟩ = some (.int .i64 k1) := by go_simp
    have zW07 : ((w.alloc (.cells #[.bool true, .bool clr, .bool sec, .int .i64 idx] 23)).alloc (.cells #[.int .i64 k0, .bool s0, .int .i64 k1, .bool s1, .int .i64 k2, .bool s2, .int .i64 k3, .bool s3, .int .i64 k4, .bool s4] 26)).cell? ⟨w.heap.size + 1, 3, none⟩ = some (.bool s1) := by go_simp
    have zW08 : ((w.alloc (.cells #[.bool true, .bool clr, .bool sec, .int .i64 idx] 23)).alloc (.cells #[.int .i64 k0, .bool s0, .int .i64 k1, .bool s1, .int .i64 k2, .bool s2, .int .i64 k3, .bool s3, .int .i64 k4, .bool s4] 26)).cell? ⟨w.heap.size + 1, 4, none⟩ = some (.int .i64 k2) := by go_simp
    have zW09 : ((w.alloc (.cells #[.bool true, .bool clr, .bool sec, .int .i64 idx] 23)).alloc (.cells #[.int .i64 k0, .bool s0, .int .i64 k1, .bool s1, .int .i64 k2, .bool s2, .int .i64 k3, .bool s3, .int .i64 k4, .bool s4] 26)).cell? ⟨w.heap.size + 1, 5, none⟩ = some (.bool s2) := by go_simp
    have zW010 : ((w.alloc (.cells #[.bool true, .bool clr, .bool sec, .int .i64 idx] 23)).alloc (.cells #[.int .i64 k0, .bool s0, .int .i64 k1, .bool s1, .int .i64 k2, .bool s2, .int .i64 k3, .bool s3, .int .i64 k4, .bool s4] 26)).cell? ⟨w.heap.size + 1, 6, none⟩ = some (.int .i64 k3) := by go_simp
    have zW011 : ((w.alloc (.cells #[.bool true, .bool clr, .bool sec, .int .i64 idx] 23)).alloc (.cells #[.int .i64 k0, .bool s0, .int .i64 k1, .bool s1, .int .i64 k2, .bool s2, .int .i64 k3, .bool s3, .int .i64 k4, .bool s4] 26)).cell? ⟨w.heap.size + 1, 7, none⟩ = some (.bool s3) := by go_simp
    have zW012 : ((w.alloc (.cells #[.bool true, .bool clr, .bool sec, .int .i64 idx] 23)).alloc (.cells #[.int .i64 k0, .bool s0, .int .i64 k1, .bool s1, .int .i64 k2, .bool s2, .int .i64 k3, .bool s3, .int .i64 k4, .bool s4] 26)).cell? ⟨w.heap.size + 1, 8, none⟩ = some (.int .i64 k4) := by go_simp
    have zW013 : ((w.alloc (.cells #[.bool true, .bool clr, .bool sec, .int .i64 idx] 23)).alloc (.cells #[.int .i64 k0, .bool s0, .int .i64 k1, .bool s1, .int .i64 k2, .bool s2, .int .i64 k3, .bool s3, .int .i64 k4, .bool s4] 26)).cell? ⟨w.heap.size + 1, 9, none⟩ = some (.bool s4) := by go_simp
    generalize ((w.alloc (.cells #[.bool true, .bool clr, .bool sec, .int .i64 idx] 23)).alloc (.cells #[.int .i64 k0, .bool s0, .int .i64 k1, .bool s1, .int .i64 k2, .bool s2, .int .i64 k3, .bool s3, .int .i64 k4, .bool s4] 26)) = W0 at *
    go_region_held3 (fun w' => Up W0 w' ∧ ∀ b o, b < W0.heap.size → w'.cell? ⟨b, o, none⟩ = W0.cell? ⟨b, o, none⟩) (first | exact ⟨by assumption, by assumption⟩ | go_keep) (first | (go_at_call 6; refine (HA.out _ _).mono ?_; rintro e w3 ⟨rfl, hB3⟩; have hU3 : Up W0 w3 := (by first | exact Up.trans (by assumption) hB3 | exact Up.trans (Up.drew (Up.refl W0)) hB3); have hc3 : ∀ b o, b < W0.heap.size → w3.cell? ⟨b, o, none⟩ = W0.cell? ⟨b, o, none⟩ := (fun b o hb => hU3.cell hb)))
    obtain ⟨hU4, hc4⟩ := ‹Up W0 w3 ∧ _›
    have y5 : w.heap.size < w3.heap.size := by have := hU4.size; omega
    have z5 : w3.cell? ⟨w.heap.size, 0, none⟩ = some (.bool true) := (hc4 _ _ yW00).trans zW00
    have hU5 : Up w w3 := hU_W0.trans hU4
    have y6 : w.heap.size < w3.heap.size + 1 := by omega
    have y7 : w.heap.size < w3.heap.size + 1 + 1 := by omega
    generalize w3 = W1 at *
    clear hc4 hU4
    clear zW00 zW01 zW02 zW03 zW04 zW05 zW06 zW07 zW08 zW09 zW010 zW011 zW012 zW013 yW00 yW01
    go_wp2_with fail
    refine (HR.out _ _).mono ?_; rintro e w5 ⟨rfl, hU6⟩
    obtain ⟨hc6, hf6, _⟩ := hU6.facts
    go_wp2_with fail
    refine (HR.out _ _).mono ?_; rintro e w6 ⟨rfl, hU7⟩
    go_wp2_with fail
    go_ret
    exact ⟨ret_bool rfl, (((((hU5.alloc _).alloc _).alloc _).trans hU6).trans hU7)⟩
  · have HR := Lib.hid (show ∀ (x : Int) w, Calls Try.prog 6 #[.agg #[.bool true, .bool false, .bool false, .int .i64 2], .agg #[.int .i64 0, .bool false, .int .i64 0, .bool false, .int .i64 x, .bool false, .int .i64 0, .bool false, .int .i64 0, .bool false], .bool true] w (fun e w' => e = .returned (.int .i64 (191 - x % 65536 / 16 % 16)) ∧ Up w w') from fun x w => (show vRd true false 2 0 false 0 false x false 0 false 0 false true = 191 - x % 65536 / 16 % 16 by simp [vRd, vBase, vPr]) ▸ read_any _ _ _ _ _ _ _ _ _ _ _ _ _ _ _ w)
    have hn : bits .andNot .i64 191 4 = 187 := by decide +kernel
    go_enter Try.func3, Try.ntmps3
    go_wp2_with fail
    have hU_W0 : Up w ((w.alloc (.cells #[.bool true, .bool clr, .bool sec, .int .i64 idx] 23)).alloc (.cells #[.int .i64 k0, .bool s0, .int .i64 k1, .bool s1, .int .i64 k2, .bool s2, .int .i64 k3, .bool s3, .int .i64 k4, .bool s4] 26)) := ((Up.refl w).alloc _).alloc _
    have yW00 : w.heap.size < ((w.alloc (.cells #[.bool true, .bool clr, .bool sec, .int .i64 idx] 23)).alloc (.cells #[.int .i64 k0, .bool s0, .int .i64 k1, .bool s1, .int .i64 k2, .bool s2, .int .i64 k3, .bool s3, .int .i64 k4, .bool s4] 26)).heap.size := by (try simp only [World.size_alloc]); omega
    have zW00 : ((w.alloc (.cells #[.bool true, .bool clr, .bool sec, .int .i64 idx] 23)).alloc (.cells #[.int .i64 k0, .bool s0, .int .i64 k1, .bool s1, .int .i64 k2, .bool s2, .int .i64 k3, .bool s3, .int .i64 k4, .bool s4] 26)).cell? ⟨w.heap.size, 0, none⟩ = some (.bool true) := by go_simp
    have zW01 : ((w.alloc (.cells #[.bool true, .bool clr, .bool sec, .int .i64 idx] 23)).alloc (.cells #[.int .i64 k0, .bool s0, .int .i64 k1, .bool s1, .int .i64 k2, .bool s2, .int .i64 k3, .bool s3, .int .i64 k4, .bool s4] 26)).cell? ⟨w.heap.size, 1, none⟩ = some (.bool clr) := by go_simp
    have zW02 : ((w.alloc (.cells #[.bool true, .bool clr, .bool sec, .int .i64 idx] 23)).alloc (.cells #[.int .i64 k0, .bool s0, .int .i64 k1, .bool s1, .int .i64 k2, .bool s2, .int .i64 k3, .bool s3, .int .i64 k4, .bool s4] 26)).cell? ⟨w.heap.size, 2, none⟩ = some (.bool sec) := by go_simp
    have zW03 : ((w.alloc (.cells #[.bool true, .bool clr, .bool sec, .int .i64 idx] 23)).alloc (.cells #[.int .i64 k0, .bool s0, .int .i64 k1, .bool s1, .int .i64 k2, .bool s2, .int .i64 k3, .bool s3, .int .i64 k4, .bool s4] 26)).cell? ⟨w.heap.size, 3, none⟩ = some (.int .i64 idx) := by go_simp
    have yW01 : w.heap.size + 1 < ((w.alloc (.cells #[.bool true, .bool clr, .bool sec, .int .i64 idx] 23)).alloc (.cells #[.int .i64 k0, .bool s0, .int .i64 k1, .bool s1, .int .i64 k2, .bool s2, .int .i64 k3, .bool s3, .int .i64 k4, .bool s4] 26)).heap.size := by (try simp only [World.size_alloc]); omega
    have zW04 : ((w.alloc (.cells #[.bool true, .bool clr, .bool sec, .int .i64 idx] 23)).alloc (.cells #[.int .i64 k0, .bool s0, .int .i64 k1, .bool s1, .int .i64 k2, .bool s2, .int .i64 k3, .bool s3, .int .i64 k4, .bool s4] 26)).cell? ⟨w.heap.size + 1, 0, none⟩ = some (.int .i64 k0) := by go_simp
    have zW05 : ((w.alloc (.cells #[.bool true, .bool clr, .bool sec, .int .i64 idx] 23)).alloc (.cells #[.int .i64 k0, .bool s0, .int .i64 k1, .bool s1, .int .i64 k2, .bool s2, .int .i64 k3, .bool s3, .int .i64 k4, .bool s4] 26)).cell? ⟨w.heap.size + 1, 1, none⟩ = some (.bool s0) := by go_simp
    have zW06 : ((w.alloc (.cells #[.bool true, .bool clr, .bool sec, .int .i64 idx] 23)).alloc (.cells #[.int .i64 k0, .bool s0, .int .i64 k1, .bool s1, .int .i64 k2, .bool s2, .int .i64 k3, .bool s3, .int .i64 k4, .bool s4] 26)).cell? ⟨w.heap.size + 1, 2, none⟩ = some (.int .i64 k1) := by go_simp
    have zW07 : ((w.alloc (.cells #[.bool true, .bool clr, .bool sec, .int .i64 idx] 23)).alloc (.cells #[.int .i64 k0, .bool s0, .int .i64 k1, .bool s1, .int .i64 k2, .bool s2, .int .i64 k3, .bool s3, .int .i64 k4, .bool s4] 26)).cell? ⟨w.heap.size + 1, 3, none⟩ = some (.bool s1) := by go_simp
    have zW08 : ((w.alloc (.cells #[.bool true, .bool clr, .bool sec, .int .i64 idx] 23)).alloc (.cells #[.int .i64 k0, .bool s0, .int .i64 k1, .bool s1, .int .i64 k2, .bool s2, .int .i64 k3, .bool s3, .int .i64 k4, .bool s4] 26)).cell? ⟨w.heap.size + 1, 4, none⟩ = some (.int .i64 k2) := by go_simp
    have zW09 : ((w.alloc (.cells #[.bool true, .bool clr, .bool sec, .int .i64 idx] 23)).alloc (.cells #[.int .i64 k0, .bool s0, .int .i64 k1, .bool s1, .int .i64 k2, .bool s2, .int .i64 k3, .bool s3, .int .i64 k4, .bool s4] 26)).cell? ⟨w.heap.size + 1, 5, none⟩ = some (.bool s2) := by go_simp
    have zW010 : ((w.alloc (.cells #[.bool true, .bool clr, .bool sec, .int .i64 idx] 23)).alloc (.cells #[.int .i64 k0, .bool s0, .int .i64 k1, .bool s1, .int .i64 k2, .bool s2, .int .i64 k3, .bool s3, .int .i64 k4, .bool s4] 26)).cell? ⟨w.heap.size + 1, 6, none⟩ = some (.int .i64 k3) := by go_simp
    have zW011 : ((w.alloc (.cells #[.bool true, .bool clr, .bool sec, .int .i64 idx] 23)).alloc (.cells #[.int .i64 k0, .bool s0, .int .i64 k1, .bool s1, .int .i64 k2, .bool s2, .int .i64 k3, .bool s3, .int .i64 k4, .bool s4] 26)).cell? ⟨w.heap.size + 1, 7, none⟩ = some (.bool s3) := by go_simp
    have zW012 : ((w.alloc (.cells #[.bool true, .bool clr, .bool sec, .int .i64 idx] 23)).alloc (.cells #[.int .i64 k0, .bool s0, .int .i64 k1, .bool s1, .int .i64 k2, .bool s2, .int .i64 k3, .bool s3, .int .i64 k4, .bool s4] 26)).cell? ⟨w.heap.size + 1, 8, none⟩ = some (.int .i64 k4) := by go_simp
    have zW013 : ((w.alloc (.cells #[.bool true, .bool clr, .bool sec, .int .i64 idx] 23)).alloc (.cells #[.int .i64 k0, .bool s0, .int .i64 k1, .bool s1, .int .i64 k2, .bool s2, .int .i64 k3, .bool s3, .int .i64 k4, .bool s4] 26)).cell? ⟨w.heap.size + 1, 9, none⟩ = some (.bool s4) := by go_simp
    generalize ((w.alloc (.cells #[.bool true, .bool clr, .bool sec, .int .i64 idx] 23)).alloc (.cells #[.int .i64 k0, .bool s0, .int .i64 k1, .bool s1, .int .i64 k2, .bool s2, .int .i64 k3, .bool s3, .int .i64 k4, .bool s4] 26)) = W0 at *
    go_region_held3 (fun w' => Up W0 w' ∧ ∀ b o, b < W0.heap.size → w'.cell? ⟨b, o, none⟩ = W0.cell? ⟨b, o, none⟩) (first | exact ⟨by assumption, by assumption⟩ | go_keep) (first | (go_at_call 6; refine (HA.out _ _).mono ?_; rintro e w3 ⟨rfl, hB3⟩; have hU3 : Up W0 w3 := (by first | exact Up.trans (by assumption) hB3 | exact Up.trans (Up.drew (Up.refl W0)) hB3); have hc3 : ∀ b o, b < W0.heap.size → w3.cell? ⟨b, o, none⟩ = W0.cell? ⟨b, o, none⟩ := (fun b o hb => hU3.cell hb)))
    obtain ⟨hU4, hc4⟩ := ‹Up W0 w3 ∧ _›
    have y5 : w.heap.size < w3.heap.size := by have := hU4.size; omega
    have z5 : w3.cell? ⟨w.heap.size, 0, none⟩ = some (.bool true) := (hc4 _ _ yW00).trans zW00
    have hU5 : Up w w3 := hU_W0.trans hU4
    have y6 : w.heap.size < w3.heap.size + 1 := by omega
    have y7 : w.heap.size < w3.heap.size + 1 + 1 := by omega
    generalize w3 = W1 at *
    clear hc4 hU4
    clear zW00 zW01 zW02 zW03 zW04 zW05 zW06 zW07 zW08 zW09 zW010 zW011 zW012 zW013 yW00 yW01
    go_wp2_with fail
    refine (HR.out _ _).mono ?_; rintro e w5 ⟨rfl, hU6⟩
    obtain ⟨hc6, hf6, _⟩ := hU6.facts
    go_wp2_with fail
    refine (HR.out _ _).mono ?_; rintro e w6 ⟨rfl, hU7⟩
    go_wp2_with fail
    go_ret
    exact ⟨ret_bool rfl, (((((hU5.alloc _).alloc _).alloc _).trans hU6).trans hU7)⟩
  · have HR := Lib.hid (show ∀ (x : Int) w, Calls Try.prog 6 #[.agg #[.bool true, .bool false, .bool false, .int .i64 2], .agg #[.int .i64 0, .bool false, .int .i64 0, .bool false, .int .i64 x, .bool false, .int .i64 0, .bool false, .int .i64 0, .bool false], .bool true] w (fun e w' => e = .returned (.int .i64 (191 - x % 65536 / 16 % 16)) ∧ Up w w') from fun x w => (show vRd true false 2 0 false 0 false x false 0 false 0 false true = 191 - x % 65536 / 16 % 16 by simp [vRd, vBase, vPr]) ▸ read_any _ _ _ _ _ _ _ _ _ _ _ _ _ _ _ w)
    have hn : bits .andNot .i64 191 8 = 183 := by decide +kernel
    go_enter Try.func3, Try.ntmps3
    go_wp2_with fail
    have hU_W0 : Up w ((w.alloc (.cells #[.bool true, .bool clr, .bool sec, .int .i64 idx] 23)).alloc (.cells #[.int .i64 k0, .bool s0, .int .i64 k1, .bool s1, .int .i64 k2, .bool s2, .int .i64 k3, .bool s3, .int .i64 k4, .bool s4] 26)) := ((Up.refl w).alloc _).alloc _
    have yW00 : w.heap.size < ((w.alloc (.cells #[.bool true, .bool clr, .bool sec, .int .i64 idx] 23)).alloc (.cells #[.int .i64 k0, .bool s0, .int .i64 k1, .bool s1, .int .i64 k2, .bool s2, .int .i64 k3, .bool s3, .int .i64 k4, .bool s4] 26)).heap.size := by (try simp only [World.size_alloc]); omega
    have zW00 : ((w.alloc (.cells #[.bool true, .bool clr, .bool sec, .int .i64 idx] 23)).alloc (.cells #[.int .i64 k0, .bool s0, .int .i64 k1, .bool s1, .int .i64 k2, .bool s2, .int .i64 k3, .bool s3, .int .i64 k4, .bool s4] 26)).cell? ⟨w.heap.size, 0, none⟩ = some (.bool true) := by go_simp
    have zW01 : ((w.alloc (.cells #[.bool true, .bool clr, .bool sec, .int .i64 idx] 23)).alloc (.cells #[.int .i64 k0, .bool s0, .int .i64 k1, .bool s1, .int .i64 k2, .bool s2, .int .i64 k3, .bool s3, .int .i64 k4, .bool s4] 26)).cell? ⟨w.heap.size, 1, none⟩ = some (.bool clr) := by go_simp
    have zW02 : ((w.alloc (.cells #[.bool true, .bool clr, .bool sec, .int .i64 idx] 23)).alloc (.cells #[.int .i64 k0, .bool s0, .int .i64 k1, .bool s1, .int .i64 k2, .bool s2, .int .i64 k3, .bool s3, .int .i64 k4, .bool s4] 26)).cell? ⟨w.heap.size, 2, none⟩ = some (.bool sec) := by go_simp
    have zW03 : ((w.alloc (.cells #[.bool true, .bool clr, .bool sec, .int .i64 idx] 23)).alloc (.cells #[.int .i64 k0, .bool s0, .int .i64 k1, .bool s1, .int .i64 k2, .bool s2, .int .i64 k3, .bool s3, .int .i64 k4, .bool s4] 26)).cell? ⟨w.heap.size, 3, none⟩ = some (.int .i64 idx) := by go_simp
    have yW01 : w.heap.size + 1 < ((w.alloc (.cells #[.bool true, .bool clr, .bool sec, .int .i64 idx] 23)).alloc (.cells #[.int .i64 k0, .bool s0, .int .i64 k1, .bool s1, .int .i64 k2, .bool s2, .int .i64 k3, .bool s3, .int .i64 k4, .bool s4] 26)).heap.size := by (try simp only [World.size_alloc]); omega
    have zW04 : ((w.alloc (.cells #[.bool true, .bool clr, .bool sec, .int .i64 idx] 23)).alloc (.cells #[.int .i64 k0, .bool s0, .int .i64 k1, .bool s1, .int .i64 k2, .bool s2, .int .i64 k3, .bool s3, .int .i64 k4, .bool s4] 26)).cell? ⟨w.heap.size + 1, 0, none⟩ = some (.int .i64 k0) := by go_simp
    have zW05 : ((w.alloc (.cells #[.bool true, .bool clr, .bool sec, .int .i64 idx] 23)).alloc (.cells #[.int .i64 k0, .bool s0, .int .i64 k1, .bool s1, .int .i64 k2, .bool s2, .int .i64 k3, .bool s3, .int .i64 k4, .bool s4] 26)).cell? ⟨w.heap.size + 1, 1, none⟩ = some (.bool s0) := by go_simp
    have zW06 : ((w.alloc (.cells #[.bool true, .bool clr, .bool sec, .int .i64 idx] 23)).alloc (.cells #[.int .i64 k0, .bool s0, .int .i64 k1, .bool s1, .int .i64 k2, .bool s2, .int .i64 k3, .bool s3, .int .i64 k4, .bool s4] 26)).cell? ⟨w.heap.size + 1, 2, none⟩ = some (.int .i64 k1) := by go_simp
    have zW07 : ((w.alloc (.cells #[.bool true, .bool clr, .bool sec, .int .i64 idx] 23)).alloc (.cells #[.int .i64 k0, .bool s0, .int .i64 k1, .bool s1, .int .i64 k2, .bool s2, .int .i64 k3, .bool s3, .int .i64 k4, .bool s4] 26)).cell? ⟨w.heap.size + 1, 3, none⟩ = some (.bool s1) := by go_simp
    have zW08 : ((w.alloc (.cells #[.bool true, .bool clr, .bool sec, .int .i64 idx] 23)).alloc (.cells #[.int .i64 k0, .bool s0, .int .i64 k1, .bool s1, .int .i64 k2, .bool s2, .int .i64 k3, .bool s3, .int .i64 k4, .bool s4] 26)).cell? ⟨w.heap.size + 1, 4, none⟩ = some (.int .i64 k2) := by go_simp
    have zW09 : ((w.alloc (.cells #[.bool true, .bool clr, .bool sec, .int .i64 idx] 23)).alloc (.cells #[.int .i64 k0, .bool s0, .int .i64 k1, .bool s1, .int .i64 k2, .bool s2, .int .i64 k3, .bool s3, .int .i64 k4, .bool s4] 26)).cell? ⟨w.heap.size + 1, 5, none⟩ = some (.bool s2) := by go_simp
    have zW010 : ((w.alloc (.cells #[.bool true, .bool clr, .bool sec, .int .i64 idx] 23)).alloc (.cells #[.int .i64 k0, .bool s0, .int .i64 k1, .bool s1, .int .i64 k2, .bool s2, .int .i64 k3, .bool s3, .int .i64 k4, .bool s4] 26)).cell? ⟨w.heap.size + 1, 6, none⟩ = some (.int .i64 k3) := by go_simp
    have zW011 : ((w.alloc (.cells #[.bool true, .bool clr, .bool sec, .int .i64 idx] 23)).alloc (.cells #[.int .i64 k0, .bool s0, .int .i64 k1, .bool s1, .int .i64 k2, .bool s2, .int .i64 k3, .bool s3, .int .i64 k4, .bool s4] 26)).cell? ⟨w.heap.size + 1, 7, none⟩ = some (.bool s3) := by go_simp
    have zW012 : ((w.alloc (.cells #[.bool true, .bool clr, .bool sec, .int .i64 idx] 23)).alloc (.cells #[.int .i64 k0, .bool s0, .int .i64 k1, .bool s1, .int .i64 k2, .bool s2, .int .i64 k3, .bool s3, .int .i64 k4, .bool s4] 26)).cell? ⟨w.heap.size + 1, 8, none⟩ = some (.int .i64 k4) := by go_simp
    have zW013 : ((w.alloc (.cells #[.bool true, .bool clr, .bool sec, .int .i64 idx] 23)).alloc (.cells #[.int .i64 k0, .bool s0, .int .i64 k1, .bool s1, .int .i64 k2, .bool s2, .int .i64 k3, .bool s3, .int .i64 k4, .bool s4] 26)).cell? ⟨w.heap.size + 1, 9, none⟩ = some (.bool s4) := by go_simp
    generalize ((w.alloc (.cells #[.bool true, .bool clr, .bool sec, .int .i64 idx] 23)).alloc (.cells #[.int .i64 k0, .bool s0, .int .i64 k1, .bool s1, .int .i64 k2, .bool s2, .int .i64 k3, .bool s3, .int .i64 k4, .bool s4] 26)) = W0 at *
    go_region_held3 (fun w' => Up W0 w' ∧ ∀ b o, b < W0.heap.size → w'.cell? ⟨b, o, none⟩ = W0.cell? ⟨b, o, none⟩) (first | exact ⟨by assumption, by assumption⟩ | go_keep) (first | (go_at_call 6; refine (HA.out _ _).mono ?_; rintro e w3 ⟨rfl, hB3⟩; have hU3 : Up W0 w3 := (by first | exact Up.trans (by assumption) hB3 | exact Up.trans (Up.drew (Up.refl W0)) hB3); have hc3 : ∀ b o, b < W0.heap.size → w3.cell? ⟨b, o, none⟩ = W0.cell? ⟨b, o, none⟩ := (fun b o hb => hU3.cell hb)))
    obtain ⟨hU4, hc4⟩ := ‹Up W0 w3 ∧ _›
    have y5 : w.heap.size < w3.heap.size := by have := hU4.size; omega
    have z5 : w3.cell? ⟨w.heap.size, 0, none⟩ = some (.bool true) := (hc4 _ _ yW00).trans zW00
    have hU5 : Up w w3 := hU_W0.trans hU4
    have y6 : w.heap.size < w3.heap.size + 1 := by omega
    have y7 : w.heap.size < w3.heap.size + 1 + 1 := by omega
    generalize w3 = W1 at *
    clear hc4 hU4
    clear zW00 zW01 zW02 zW03 zW04 zW05 zW06 zW07 zW08 zW09 zW010 zW011 zW012 zW013 yW00 yW01
    go_wp2_with fail
    refine (HR.out _ _).mono ?_; rintro e w5 ⟨rfl, hU6⟩
    obtain ⟨hc6, hf6, _⟩ := hU6.facts
    go_wp2_with fail
    refine (HR.out _ _).mono ?_; rintro e w6 ⟨rfl, hU7⟩
    go_wp2_with fail
    go_ret
    exact ⟨ret_bool rfl, (((((hU5.alloc _).alloc _).alloc _).trans hU6).trans hU7)⟩
end Go.Proofs.Ythaffmnoffjblaa
