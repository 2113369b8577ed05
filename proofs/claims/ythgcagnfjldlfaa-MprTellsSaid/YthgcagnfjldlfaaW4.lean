/- The walk of the law MprTells: it returns true. -/
import Derived.Test.YthgcagnfjldlfaaV
import Derived.Test.YthgcagnfjldlfaaOP
namespace Go.Proofs.Ythgcagnfjldlfaa
open Go.RowKit
attribute [local go_sem] eq8 eq8r

def vP (x0 x1 x2 x3 x4 x5 x6 x7 n : Int) : Int := vPhys (fun i => match i with | 0 => x0 | 1 => x1 | 2 => x2 | 3 => x3 | 4 => x4 | 5 => x5 | 6 => x6 | _ => x7) n
theorem physP (x0 x1 x2 x3 x4 x5 x6 x7 n : Int) (w : World) : Calls Try.prog 7 #[.agg #[.int .i64 x0, .int .i64 x1, .int .i64 x2, .int .i64 x3, .int .i64 x4, .int .i64 x5, .int .i64 x6, .int .i64 x7], .int .i64 n] w fun e w' => e = .returned (.int .i64 (vP x0 x1 x2 x3 x4 x5 x6 x7 n)) ∧ Up w w' := phys_any (fun i => match i with | 0 => x0 | 1 => x1 | 2 => x2 | 3 => x3 | 4 => x4 | 5 => x5 | 6 => x6 | _ => x7) n w
theorem vP_F (F : Nat → Int) (n : Int) : vPhys F n = vP (F 0) (F 1) (F 2) (F 3) (F 4) (F 5) (F 6) (F 7) n := by
  have hq : n % 65536 / 8192 = 0 ∨ n % 65536 / 8192 = 1 ∨ n % 65536 / 8192 = 2 ∨ n % 65536 / 8192 = 3 ∨ n % 65536 / 8192 = 4 ∨ n % 65536 / 8192 = 5 ∨ n % 65536 / 8192 = 6 ∨ n % 65536 / 8192 = 7 := by omega
  unfold vP vPhys
  rcases hq with hq | hq | hq | hq | hq | hq | hq | hq <;> rw [hq] <;> rfl
def vK (F : Nat → Int) : Nat → Bool
  | 0 => true
  | j + 1 => vK F j && (decide (0 ≤ F j) && decide (F j ≤ 255))
theorem one_byte (x : Int) : (x == x % 256) = (decide (0 ≤ x) && decide (x ≤ 255)) := by
  rw [Bool.eq_iff_iff]; simp; omega
theorem vOk_eq (F : Nat → Int) : vOk F = vK F 8 := by simp only [vOk, one_byte, vK, Bool.true_and]

set_option maxHeartbeats 8000000 in
set_option maxRecDepth 100000 in
theorem walk_mprTells (c0 : List Value) (f0 : OP.FitsAll [true, true, true, true, true, true, true, true] c0) (n : Int) (hn : -9223372036854775808 ≤ n ∧ n ≤ 9223372036854775807) (c2 : List Value) (f2 : OP.FitsAll [true, true] c2) (w : World) :
    Calls Try.prog 6 #[.agg ⟨c0⟩, .int .i64 n, .agg ⟨c2⟩] w fun e w' => e = .returned (.bool true) ∧ Below w.heap.size w w' := by
  obtain ⟨m, s0, rfl, hm, g1⟩ := OP.cons_int f2
  obtain ⟨b, s1, rfl, hb, g2⟩ := OP.cons_int g1
  obtain rfl := OP.none_left g2
  clear f2 g1 g2
  have e0 := f0
  obtain ⟨v0, q0, rfl, r0, e1⟩ := OP.cons_int e0
  obtain ⟨v1, q1, rfl, r1, e2⟩ := OP.cons_int e1
  obtain ⟨v2, q2, rfl, r2, e3⟩ := OP.cons_int e2
  obtain ⟨v3, q3, rfl, r3, e4⟩ := OP.cons_int e3
  obtain ⟨v4, q4, rfl, r4, e5⟩ := OP.cons_int e4
  obtain ⟨v5, q5, rfl, r5, e6⟩ := OP.cons_int e5
  obtain ⟨v6, q6, rfl, r6, e7⟩ := OP.cons_int e6
  obtain ⟨v7, q7, rfl, r7, e8⟩ := OP.cons_int e7
  obtain rfl := OP.none_left e8
  obtain ⟨F, rfl, rfl, rfl, rfl, rfl, rfl, rfl, rfl, hF⟩ : ∃ F : Nat → Int, F 0 = v0 ∧ F 1 = v1 ∧ F 2 = v2 ∧ F 3 = v3 ∧ F 4 = v4 ∧ F 5 = v5 ∧ F 6 = v6 ∧ F 7 = v7 ∧ ∀ i, -9223372036854775808 ≤ F i ∧ F i ≤ 9223372036854775807 := ⟨fun i => match i with | 0 => v0 | 1 => v1 | 2 => v2 | 3 => v3 | 4 => v4 | 5 => v5 | 6 => v6 | _ => v7, rfl, rfl, rfl, rfl, rfl, rfl, rfl, rfl, fun i => match i with | 0 => r0 | 1 => r1 | 2 => r2 | 3 => r3 | 4 => r4 | 5 => r5 | 6 => r6 | _ + 7 => r7⟩
  clear f0 e0 e1 e2 e3 e4 e5 e6 e7 e8 r0 r1 r2 r3 r4 r5 r6 r7
  have HP := Lib.hid physP
  have HR := Lib.hid (fun w => vP_F F n ▸ rphys_any F n hn hF w)
  have HT := Lib.hid (fun w => tam_any F m b w)
  have HU := Lib.hid (fun w => rtam_any F m b hm hb w)
  have HA := Lib.hid (fun w => tma_any F m b w)
  have HB := Lib.hid (fun w => rtma_any F m b hm hb hF w)
  have HV := Lib.hid (fun w => vOk_eq F ▸ valid_any F w)
  have HF := Lib.hid fresh_any
  have hz : vP 0 248 0 0 0 0 0 0 8197 = 2031621 := by decide +kernel
  clear hF hm hb hn
  go_enter Try.func6, Try.ntmps6
  go_wp2_with fail
  go_loop [7, 8] (fun ok i => ∃ j : Nat, j ≤ 8 ∧ i = .int .i64 j ∧ ok = .bool (vK F j)) (fun _ i => 8 - (intOf i).toNat)
  case atStart => exact ⟨0, by omega, rfl, rfl⟩
  case round =>
    obtain ⟨j, hj, rfl, rfl⟩ := hrel
    have hjs : j = 0 ∨ j = 1 ∨ j = 2 ∨ j = 3 ∨ j = 4 ∨ j = 5 ∨ j = 6 ∨ j = 7 ∨ j = 8 := by omega
    rcases hjs with rfl | rfl | rfl | rfl | rfl | rfl | rfl | rfl | rfl
    · have hv : vK F 0 = true := rfl
      by_cases hl : 0 ≤ F 0
      · have dl : decide (0 ≤ F 0) = true := decide_eq_true hl
        by_cases hu : F 0 ≤ 255
        · have du : decide (F 0 ≤ 255) = true := decide_eq_true hu
          go_wp2_with fail
          go_round
          case rel => exact ⟨1, by omega, rfl, by rw [show vK F 1 = (vK F 0 && (decide (0 ≤ F 0) && decide (F 0 ≤ 255))) from rfl, hv]; simp [hl, hu]⟩
          case measure => simp [intOf]
        · have du : decide (F 0 ≤ 255) = false := decide_eq_false hu
          go_wp2_with fail
          go_round
          case rel => exact ⟨1, by omega, rfl, by rw [show vK F 1 = (vK F 0 && (decide (0 ≤ F 0) && decide (F 0 ≤ 255))) from rfl, hv]; simp [hl, hu]⟩
          case measure => simp [intOf]
      · have dl : decide (0 ≤ F 0) = false := decide_eq_false hl
        go_wp2_with fail
        go_round
        case rel => exact ⟨1, by omega, rfl, by rw [show vK F 1 = (vK F 0 && (decide (0 ≤ F 0) && decide (F 0 ≤ 255))) from rfl, hv]; simp [hl]⟩
        case measure => simp [intOf]
    · rcases hv : vK F 1 with _ | _
      · skip
        go_wp2_with fail
        go_round
        case rel => exact ⟨2, by omega, rfl, by rw [show vK F 2 = (vK F 1 && (decide (0 ≤ F 1) && decide (F 1 ≤ 255))) from rfl, hv]; simp⟩
        case measure => simp [intOf]
      · skip
        by_cases hl : 0 ≤ F 1
        · have dl : decide (0 ≤ F 1) = true := decide_eq_true hl
          by_cases hu : F 1 ≤ 255
          · have du : decide (F 1 ≤ 255) = true := decide_eq_true hu
            go_wp2_with fail
            go_round
            case rel => exact ⟨2, by omega, rfl, by rw [show vK F 2 = (vK F 1 && (decide (0 ≤ F 1) && decide (F 1 ≤ 255))) from rfl, hv]; simp [hl, hu]⟩
            case measure => simp [intOf]
          · have du : decide (F 1 ≤ 255) = false := decide_eq_false hu
            go_wp2_with fail
            go_round
            case rel => exact ⟨2, by omega, rfl, by rw [show vK F 2 = (vK F 1 && (decide (0 ≤ F 1) && decide (F 1 ≤ 255))) from rfl, hv]; simp [hl, hu]⟩
            case measure => simp [intOf]
        · have dl : decide (0 ≤ F 1) = false := decide_eq_false hl
          go_wp2_with fail
          go_round
          case rel => exact ⟨2, by omega, rfl, by rw [show vK F 2 = (vK F 1 && (decide (0 ≤ F 1) && decide (F 1 ≤ 255))) from rfl, hv]; simp [hl]⟩
          case measure => simp [intOf]
    · rcases hv : vK F 2 with _ | _
      · skip
        go_wp2_with fail
        go_round
        case rel => exact ⟨3, by omega, rfl, by rw [show vK F 3 = (vK F 2 && (decide (0 ≤ F 2) && decide (F 2 ≤ 255))) from rfl, hv]; simp⟩
        case measure => simp [intOf]
      · skip
        by_cases hl : 0 ≤ F 2
        · have dl : decide (0 ≤ F 2) = true := decide_eq_true hl
          by_cases hu : F 2 ≤ 255
          · have du : decide (F 2 ≤ 255) = true := decide_eq_true hu
            go_wp2_with fail
            go_round
            case rel => exact ⟨3, by omega, rfl, by rw [show vK F 3 = (vK F 2 && (decide (0 ≤ F 2) && decide (F 2 ≤ 255))) from rfl, hv]; simp [hl, hu]⟩
            case measure => simp [intOf]
          · have du : decide (F 2 ≤ 255) = false := decide_eq_false hu
            go_wp2_with fail
            go_round
            case rel => exact ⟨3, by omega, rfl, by rw [show vK F 3 = (vK F 2 && (decide (0 ≤ F 2) && decide (F 2 ≤ 255))) from rfl, hv]; simp [hl, hu]⟩
            case measure => simp [intOf]
        · have dl : decide (0 ≤ F 2) = false := decide_eq_false hl
          go_wp2_with fail
          go_round
          case rel => exact ⟨3, by omega, rfl, by rw [show vK F 3 = (vK F 2 && (decide (0 ≤ F 2) && decide (F 2 ≤ 255))) from rfl, hv]; simp [hl]⟩
          case measure => simp [intOf]
    · rcases hv : vK F 3 with _ | _
      · skip
        go_wp2_with fail
        go_round
        case rel => exact ⟨4, by omega, rfl, by rw [show vK F 4 = (vK F 3 && (decide (0 ≤ F 3) && decide (F 3 ≤ 255))) from rfl, hv]; simp⟩
        case measure => simp [intOf]
      · skip
        by_cases hl : 0 ≤ F 3
        · have dl : decide (0 ≤ F 3) = true := decide_eq_true hl
          by_cases hu : F 3 ≤ 255
          · have du : decide (F 3 ≤ 255) = true := decide_eq_true hu
            go_wp2_with fail
            go_round
            case rel => exact ⟨4, by omega, rfl, by rw [show vK F 4 = (vK F 3 && (decide (0 ≤ F 3) && decide (F 3 ≤ 255))) from rfl, hv]; simp [hl, hu]⟩
            case measure => simp [intOf]
          · have du : decide (F 3 ≤ 255) = false := decide_eq_false hu
            go_wp2_with fail
            go_round
            case rel => exact ⟨4, by omega, rfl, by rw [show vK F 4 = (vK F 3 && (decide (0 ≤ F 3) && decide (F 3 ≤ 255))) from rfl, hv]; simp [hl, hu]⟩
            case measure => simp [intOf]
        · have dl : decide (0 ≤ F 3) = false := decide_eq_false hl
          go_wp2_with fail
          go_round
          case rel => exact ⟨4, by omega, rfl, by rw [show vK F 4 = (vK F 3 && (decide (0 ≤ F 3) && decide (F 3 ≤ 255))) from rfl, hv]; simp [hl]⟩
          case measure => simp [intOf]
    · rcases hv : vK F 4 with _ | _
      · skip
        go_wp2_with fail
        go_round
        case rel => exact ⟨5, by omega, rfl, by rw [show vK F 5 = (vK F 4 && (decide (0 ≤ F 4) && decide (F 4 ≤ 255))) from rfl, hv]; simp⟩
        case measure => simp [intOf]
      · skip
        by_cases hl : 0 ≤ F 4
        · have dl : decide (0 ≤ F 4) = true := decide_eq_true hl
          by_cases hu : F 4 ≤ 255
          · have du : decide (F 4 ≤ 255) = true := decide_eq_true hu
            go_wp2_with fail
            go_round
            case rel => exact ⟨5, by omega, rfl, by rw [show vK F 5 = (vK F 4 && (decide (0 ≤ F 4) && decide (F 4 ≤ 255))) from rfl, hv]; simp [hl, hu]⟩
            case measure => simp [intOf]
          · have du : decide (F 4 ≤ 255) = false := decide_eq_false hu
            go_wp2_with fail
            go_round
            case rel => exact ⟨5, by omega, rfl, by rw [show vK F 5 = (vK F 4 && (decide (0 ≤ F 4) && decide (F 4 ≤ 255))) from rfl, hv]; simp [hl, hu]⟩
            case measure => simp [intOf]
        · have dl : decide (0 ≤ F 4) = false := decide_eq_false hl
          go_wp2_with fail
          go_round
          case rel => exact ⟨5, by omega, rfl, by rw [show vK F 5 = (vK F 4 && (decide (0 ≤ F 4) && decide (F 4 ≤ 255))) from rfl, hv]; simp [hl]⟩
          case measure => simp [intOf]
    · rcases hv : vK F 5 with _ | _
      · skip
        go_wp2_with fail
        go_round
        case rel => exact ⟨6, by omega, rfl, by rw [show vK F 6 = (vK F 5 && (decide (0 ≤ F 5) && decide (F 5 ≤ 255))) from rfl, hv]; simp⟩
        case measure => simp [intOf]
      · skip
        by_cases hl : 0 ≤ F 5
        · have dl : decide (0 ≤ F 5) = true := decide_eq_true hl
          by_cases hu : F 5 ≤ 255
          · have du : decide (F 5 ≤ 255) = true := decide_eq_true hu
            go_wp2_with fail
            go_round
            case rel => exact ⟨6, by omega, rfl, by rw [show vK F 6 = (vK F 5 && (decide (0 ≤ F 5) && decide (F 5 ≤ 255))) from rfl, hv]; simp [hl, hu]⟩
            case measure => simp [intOf]
          · have du : decide (F 5 ≤ 255) = false := decide_eq_false hu
            go_wp2_with fail
            go_round
            case rel => exact ⟨6, by omega, rfl, by rw [show vK F 6 = (vK F 5 && (decide (0 ≤ F 5) && decide (F 5 ≤ 255))) from rfl, hv]; simp [hl, hu]⟩
            case measure => simp [intOf]
        · have dl : decide (0 ≤ F 5) = false := decide_eq_false hl
          go_wp2_with fail
          go_round
          case rel => exact ⟨6, by omega, rfl, by rw [show vK F 6 = (vK F 5 && (decide (0 ≤ F 5) && decide (F 5 ≤ 255))) from rfl, hv]; simp [hl]⟩
          case measure => simp [intOf]
    · rcases hv : vK F 6 with _ | _
      · skip
        go_wp2_with fail
        go_round
        case rel => exact ⟨7, by omega, rfl, by rw [show vK F 7 = (vK F 6 && (decide (0 ≤ F 6) && decide (F 6 ≤ 255))) from rfl, hv]; simp⟩
        case measure => simp [intOf]
      · skip
        by_cases hl : 0 ≤ F 6
        · have dl : decide (0 ≤ F 6) = true := decide_eq_true hl
          by_cases hu : F 6 ≤ 255
          · have du : decide (F 6 ≤ 255) = true := decide_eq_true hu
            go_wp2_with fail
            go_round
            case rel => exact ⟨7, by omega, rfl, by rw [show vK F 7 = (vK F 6 && (decide (0 ≤ F 6) && decide (F 6 ≤ 255))) from rfl, hv]; simp [hl, hu]⟩
            case measure => simp [intOf]
          · have du : decide (F 6 ≤ 255) = false := decide_eq_false hu
            go_wp2_with fail
            go_round
            case rel => exact ⟨7, by omega, rfl, by rw [show vK F 7 = (vK F 6 && (decide (0 ≤ F 6) && decide (F 6 ≤ 255))) from rfl, hv]; simp [hl, hu]⟩
            case measure => simp [intOf]
        · have dl : decide (0 ≤ F 6) = false := decide_eq_false hl
          go_wp2_with fail
          go_round
          case rel => exact ⟨7, by omega, rfl, by rw [show vK F 7 = (vK F 6 && (decide (0 ≤ F 6) && decide (F 6 ≤ 255))) from rfl, hv]; simp [hl]⟩
          case measure => simp [intOf]
    · rcases hv : vK F 7 with _ | _
      · skip
        go_wp2_with fail
        go_round
        case rel => exact ⟨8, by omega, rfl, by rw [show vK F 8 = (vK F 7 && (decide (0 ≤ F 7) && decide (F 7 ≤ 255))) from rfl, hv]; simp⟩
        case measure => simp [intOf]
      · skip
        by_cases hl : 0 ≤ F 7
        · have dl : decide (0 ≤ F 7) = true := decide_eq_true hl
          by_cases hu : F 7 ≤ 255
          · have du : decide (F 7 ≤ 255) = true := decide_eq_true hu
            go_wp2_with fail
            go_round
            case rel => exact ⟨8, by omega, rfl, by rw [show vK F 8 = (vK F 7 && (decide (0 ≤ F 7) && decide (F 7 ≤ 255))) from rfl, hv]; simp [hl, hu]⟩
            case measure => simp [intOf]
          · have du : decide (F 7 ≤ 255) = false := decide_eq_false hu
            go_wp2_with fail
            go_round
            case rel => exact ⟨8, by omega, rfl, by rw [show vK F 8 = (vK F 7 && (decide (0 ≤ F 7) && decide (F 7 ≤ 255))) from rfl, hv]; simp [hl, hu]⟩
            case measure => simp [intOf]
        · have dl : decide (0 ≤ F 7) = false := decide_eq_false hl
          go_wp2_with fail
          go_round
          case rel => exact ⟨8, by omega, rfl, by rw [show vK F 8 = (vK F 7 && (decide (0 ≤ F 7) && decide (F 7 ≤ 255))) from rfl, hv]; simp [hl]⟩
          case measure => simp [intOf]
    · go_wp2_with fail
      have hU_W0 : Up w ((w.alloc (.cells ⟨[.int .i64 (F 0), .int .i64 (F 1), .int .i64 (F 2), .int .i64 (F 3), .int .i64 (F 4), .int .i64 (F 5), .int .i64 (F 6), .int .i64 (F 7)]⟩ 22)).alloc (.cells ⟨[.int .i64 m, .int .i64 b]⟩ 31)) := ((Up.refl w).alloc _).alloc _
      have yW00 : w.heap.size < ((w.alloc (.cells ⟨[.int .i64 (F 0), .int .i64 (F 1), .int .i64 (F 2), .int .i64 (F 3), .int .i64 (F 4), .int .i64 (F 5), .int .i64 (F 6), .int .i64 (F 7)]⟩ 22)).alloc (.cells ⟨[.int .i64 m, .int .i64 b]⟩ 31)).heap.size := by (try simp only [World.size_alloc]); omega
      have zW00 : ((w.alloc (.cells ⟨[.int .i64 (F 0), .int .i64 (F 1), .int .i64 (F 2), .int .i64 (F 3), .int .i64 (F 4), .int .i64 (F 5), .int .i64 (F 6), .int .i64 (F 7)]⟩ 22)).alloc (.cells ⟨[.int .i64 m, .int .i64 b]⟩ 31)).cell? ⟨w.heap.size, 0, none⟩ = some (.int .i64 (F 0)) := by go_simp
      have zW01 : ((w.alloc (.cells ⟨[.int .i64 (F 0), .int .i64 (F 1), .int .i64 (F 2), .int .i64 (F 3), .int .i64 (F 4), .int .i64 (F 5), .int .i64 (F 6), .int .i64 (F 7)]⟩ 22)).alloc (.cells ⟨[.int .i64 m, .int .i64 b]⟩ 31)).cell? ⟨w.heap.size, 1, none⟩ = some (.int .i64 (F 1)) := by go_simp
      have zW02 : ((w.alloc (.cells ⟨[.int .i64 (F 0), .int .i64 (F 1), .int .i64 (F 2), .int .i64 (F 3), .int .i64 (F 4), .int .i64 (F 5), .int .i64 (F 6), .int .i64 (F 7)]⟩ 22)).alloc (.cells ⟨[.int .i64 m, .int .i64 b]⟩ 31)).cell? ⟨w.heap.size, 2, none⟩ = some (.int .i64 (F 2)) := by go_simp
      have zW03 : ((w.alloc (.cells ⟨[.int .i64 (F 0), .int .i64 (F 1), .int .i64 (F 2), .int .i64 (F 3), .int .i64 (F 4), .int .i64 (F 5), .int .i64 (F 6), .int .i64 (F 7)]⟩ 22)).alloc (.cells ⟨[.int .i64 m, .int .i64 b]⟩ 31)).cell? ⟨w.heap.size, 3, none⟩ = some (.int .i64 (F 3)) := by go_simp
      have zW04 : ((w.alloc (.cells ⟨[.int .i64 (F 0), .int .i64 (F 1), .int .i64 (F 2), .int .i64 (F 3), .int .i64 (F 4), .int .i64 (F 5), .int .i64 (F 6), .int .i64 (F 7)]⟩ 22)).alloc (.cells ⟨[.int .i64 m, .int .i64 b]⟩ 31)).cell? ⟨w.heap.size, 4, none⟩ = some (.int .i64 (F 4)) := by go_simp
      have zW05 : ((w.alloc (.cells ⟨[.int .i64 (F 0), .int .i64 (F 1), .int .i64 (F 2), .int .i64 (F 3), .int .i64 (F 4), .int .i64 (F 5), .int .i64 (F 6), .int .i64 (F 7)]⟩ 22)).alloc (.cells ⟨[.int .i64 m, .int .i64 b]⟩ 31)).cell? ⟨w.heap.size, 5, none⟩ = some (.int .i64 (F 5)) := by go_simp
      have zW06 : ((w.alloc (.cells ⟨[.int .i64 (F 0), .int .i64 (F 1), .int .i64 (F 2), .int .i64 (F 3), .int .i64 (F 4), .int .i64 (F 5), .int .i64 (F 6), .int .i64 (F 7)]⟩ 22)).alloc (.cells ⟨[.int .i64 m, .int .i64 b]⟩ 31)).cell? ⟨w.heap.size, 6, none⟩ = some (.int .i64 (F 6)) := by go_simp
      have zW07 : ((w.alloc (.cells ⟨[.int .i64 (F 0), .int .i64 (F 1), .int .i64 (F 2), .int .i64 (F 3), .int .i64 (F 4), .int .i64 (F 5), .int .i64 (F 6), .int .i64 (F 7)]⟩ 22)).alloc (.cells ⟨[.int .i64 m, .int .i64 b]⟩ 31)).cell? ⟨w.heap.size, 7, none⟩ = some (.int .i64 (F 7)) := by go_simp
      have yW01 : w.heap.size + 1 < ((w.alloc (.cells ⟨[.int .i64 (F 0), .int .i64 (F 1), .int .i64 (F 2), .int .i64 (F 3), .int .i64 (F 4), .int .i64 (F 5), .int .i64 (F 6), .int .i64 (F 7)]⟩ 22)).alloc (.cells ⟨[.int .i64 m, .int .i64 b]⟩ 31)).heap.size := by (try simp only [World.size_alloc]); omega
      have zW08 : ((w.alloc (.cells ⟨[.int .i64 (F 0), .int .i64 (F 1), .int .i64 (F 2), .int .i64 (F 3), .int .i64 (F 4), .int .i64 (F 5), .int .i64 (F 6), .int .i64 (F 7)]⟩ 22)).alloc (.cells ⟨[.int .i64 m, .int .i64 b]⟩ 31)).cell? ⟨w.heap.size + 1, 0, none⟩ = some (.int .i64 m) := by go_simp
      have zW09 : ((w.alloc (.cells ⟨[.int .i64 (F 0), .int .i64 (F 1), .int .i64 (F 2), .int .i64 (F 3), .int .i64 (F 4), .int .i64 (F 5), .int .i64 (F 6), .int .i64 (F 7)]⟩ 22)).alloc (.cells ⟨[.int .i64 m, .int .i64 b]⟩ 31)).cell? ⟨w.heap.size + 1, 1, none⟩ = some (.int .i64 b) := by go_simp
      generalize ((w.alloc (.cells ⟨[.int .i64 (F 0), .int .i64 (F 1), .int .i64 (F 2), .int .i64 (F 3), .int .i64 (F 4), .int .i64 (F 5), .int .i64 (F 6), .int .i64 (F 7)]⟩ 22)).alloc (.cells ⟨[.int .i64 m, .int .i64 b]⟩ 31)) = W0 at *
      go_region_held3 (fun w' => Up W0 w' ∧ ∀ b o, b < W0.heap.size → w'.cell? ⟨b, o, none⟩ = W0.cell? ⟨b, o, none⟩) (first | exact ⟨by assumption, by assumption⟩ | go_keep) (first | (go_at_call 7; refine (HP.out _ _ _ _ _ _ _ _ _ _).mono ?_; rintro e w3 ⟨rfl, hB3⟩; have hU3 : Up W0 w3 := (by first | exact Up.trans (by assumption) hB3 | exact Up.trans (Up.drew (Up.refl W0)) hB3); have hc3 : ∀ b o, b < W0.heap.size → w3.cell? ⟨b, o, none⟩ = W0.cell? ⟨b, o, none⟩ := (fun b o hb => hU3.cell hb)) | (go_at_call 11; refine (HR.out _).mono ?_; rintro e w3 ⟨rfl, hB3⟩; have hU3 : Up W0 w3 := (by first | exact Up.trans (by assumption) hB3 | exact Up.trans (Up.drew (Up.refl W0)) hB3); have hc3 : ∀ b o, b < W0.heap.size → w3.cell? ⟨b, o, none⟩ = W0.cell? ⟨b, o, none⟩ := (fun b o hb => hU3.cell hb)) | (go_at_call 8; refine (HT.out _).mono ?_; rintro e w3 ⟨rfl, hB3⟩; have hU3 : Up W0 w3 := (by first | exact Up.trans (by assumption) hB3 | exact Up.trans (Up.drew (Up.refl W0)) hB3); have hc3 : ∀ b o, b < W0.heap.size → w3.cell? ⟨b, o, none⟩ = W0.cell? ⟨b, o, none⟩ := (fun b o hb => hU3.cell hb)) | (go_at_call 12; refine (HU.out _).mono ?_; rintro e w3 ⟨rfl, hB3⟩; have hU3 : Up W0 w3 := (by first | exact Up.trans (by assumption) hB3 | exact Up.trans (Up.drew (Up.refl W0)) hB3); have hc3 : ∀ b o, b < W0.heap.size → w3.cell? ⟨b, o, none⟩ = W0.cell? ⟨b, o, none⟩ := (fun b o hb => hU3.cell hb)) | (go_at_call 9; refine (HA.out _).mono ?_; rintro e w3 ⟨rfl, hB3⟩; have hU3 : Up W0 w3 := (by first | exact Up.trans (by assumption) hB3 | exact Up.trans (Up.drew (Up.refl W0)) hB3); have hc3 : ∀ b o, b < W0.heap.size → w3.cell? ⟨b, o, none⟩ = W0.cell? ⟨b, o, none⟩ := (fun b o hb => hU3.cell hb)) | (go_at_call 13; refine (HB.out _).mono ?_; rintro e w3 ⟨rfl, hB3⟩; have hU3 : Up W0 w3 := (by first | exact Up.trans (by assumption) hB3 | exact Up.trans (Up.drew (Up.refl W0)) hB3); have hc3 : ∀ b o, b < W0.heap.size → w3.cell? ⟨b, o, none⟩ = W0.cell? ⟨b, o, none⟩ := (fun b o hb => hU3.cell hb)) | (go_at_call 10; refine (HV.out _).mono ?_; rintro e w3 ⟨rfl, hB3⟩; have hU3 : Up W0 w3 := (by first | exact Up.trans (by assumption) hB3 | exact Up.trans (Up.drew (Up.refl W0)) hB3); have hc3 : ∀ b o, b < W0.heap.size → w3.cell? ⟨b, o, none⟩ = W0.cell? ⟨b, o, none⟩ := (fun b o hb => hU3.cell hb)) | (go_at_call 14; refine (HF.out _).mono ?_; rintro e w3 ⟨rfl, hB3⟩; have hU3 : Up W0 w3 := (by first | exact Up.trans (by assumption) hB3 | exact Up.trans (Up.drew (Up.refl W0)) hB3); have hc3 : ∀ b o, b < W0.heap.size → w3.cell? ⟨b, o, none⟩ = W0.cell? ⟨b, o, none⟩ := (fun b o hb => hU3.cell hb)))
      obtain ⟨hU4, hc4⟩ := ‹Up W0 w3 ∧ _›
      go_wp2_with fail
      go_ret
      exact ⟨ret_bool rfl, hU_W0.trans hU4⟩
end Go.Proofs.Ythgcagnfjldlfaa
