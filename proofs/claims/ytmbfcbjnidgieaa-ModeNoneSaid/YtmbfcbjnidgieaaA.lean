/- Contracts of the functions of the package mode: what each returns. -/
import Derived.Test.YtmbfcbjnidgieaaBC
namespace Go.Proofs.Ytmbfcbjnidgieaa
open Go.RowKit

theorem w64_256 (n : Int) : wrap64 n % 256 = n % 256 := by unfold wrap64; omega
theorem w64_65536 (n : Int) : wrap64 n % 65536 = n % 65536 := by unfold wrap64; omega
theorem or8192 (x : Int) (h0 : 0 ≤ x) (h1 : x ≤ 255) : bits .or .i64 8192 x = 8192 + x := BM.or_join 8 8192 x (by omega) (by omega) (by omega) h0 (by omega) (by omega)

theorem zero_any (b : Nat) (n o : Int) (w : World) (h : w.cell? ⟨b, 0, none⟩ = some (.int .i64 o)) :
    Calls Try.prog 15 #[.int .i64 n, .pointer (some ⟨b, 0, none⟩)] w fun e w' => e = .returned (.tuple #[.int .i64 (8192 + (o + n) % 256), .bool true]) ∧ w = w' := by
  have E := Lib.hid (show bits .or .i64 8192 (wrap64 (o + n) % 256) = 8192 + (o + n) % 256 by rw [w64_256]; exact or8192 _ (by omega) (by omega))
  go_enter Try.func15, Try.ntmps15
  go_wp2_with (go_at_call 16; refine (byte_any _ _).mono ?_; rintro e w' ⟨rfl, rfl⟩)
  go_ret2
  exact ⟨by rw [← E.out]; rfl, rfl⟩
theorem far_any (a n : Int) (w : World) :
    Calls Try.prog 17 #[.int .i64 a, .int .i64 n] w fun e w' => e = .returned (.tuple #[.int .i64 ((a + n) % 65536), .bool true]) ∧ w = w' := by
  have E := Lib.hid (w64_65536 (a + n))
  go_enter Try.func17, Try.ntmps17
  go_wp2_with (go_at_call 18; refine (word_any _ _).mono ?_; rintro e w' ⟨rfl, rfl⟩)
  go_ret2
  exact ⟨by rw [← E.out]; rfl, rfl⟩

def vA (m x y o p : Int) : Int :=
  if m = 3 ∨ m = 15 ∨ m = 17 then 8192 + o % 256 else if m = 4 ∨ m = 18 then 8192 + (o + x) % 256 else if m = 5 then 8192 + (o + y) % 256 else
  if m = 9 ∨ m = 19 then o % 65536 else if m = 10 ∨ m = 20 then (o + x) % 65536 else if m = 11 then (o + y) % 65536 else
  if m = 6 ∨ m = 8 ∨ m = 12 ∨ m = 13 then p % 65536 else if m = 7 then (p + y) % 65536 else 0
def vOk (m : Int) : Bool := decide (3 ≤ m ∧ m ≤ 20 ∧ m ≠ 14 ∧ m ≠ 16)
set_option maxHeartbeats 1000000 in
theorem address_none (m x y o p : Int) (w : World) (h : vOk m = false) :
    Calls Try.prog 7 #[.int .i64 m, .agg #[.int .i64 x, .int .i64 y], .int .i64 o, .int .i64 p] w fun e w' => e = .returned (.tuple #[.int .i64 0, .bool false]) ∧ Up w w' := by
  simp only [vOk, decide_eq_false_iff_not] at h
  have n3 : (m == 3) = false := beq_eq_false_iff_ne.2 (by omega)
  have n15 : (m == 15) = false := beq_eq_false_iff_ne.2 (by omega)
  have n17 : (m == 17) = false := beq_eq_false_iff_ne.2 (by omega)
  have n4 : (m == 4) = false := beq_eq_false_iff_ne.2 (by omega)
  have n18 : (m == 18) = false := beq_eq_false_iff_ne.2 (by omega)
  have n5 : (m == 5) = false := beq_eq_false_iff_ne.2 (by omega)
  have n9 : (m == 9) = false := beq_eq_false_iff_ne.2 (by omega)
  have n19 : (m == 19) = false := beq_eq_false_iff_ne.2 (by omega)
  have n10 : (m == 10) = false := beq_eq_false_iff_ne.2 (by omega)
  have n20 : (m == 20) = false := beq_eq_false_iff_ne.2 (by omega)
  have n11 : (m == 11) = false := beq_eq_false_iff_ne.2 (by omega)
  have n6 : (m == 6) = false := beq_eq_false_iff_ne.2 (by omega)
  have n8 : (m == 8) = false := beq_eq_false_iff_ne.2 (by omega)
  have n12 : (m == 12) = false := beq_eq_false_iff_ne.2 (by omega)
  have n13 : (m == 13) = false := beq_eq_false_iff_ne.2 (by omega)
  have n7 : (m == 7) = false := beq_eq_false_iff_ne.2 (by omega)
  clear h
  go_enter Try.func7, Try.ntmps7
  go_wp2
  go_ret2
  exact ⟨rfl, (by repeat (first | exact Up.refl _ | assumption | refine Up.drew ?_ | refine Up.alloc ?_ _ | refine Up.trans ?_ (by assumption)))⟩
theorem address_3 (x y o p : Int) (w : World) :
    Calls Try.prog 7 #[.int .i64 3, .agg #[.int .i64 x, .int .i64 y], .int .i64 o, .int .i64 p] w fun e w' => e = .returned (.tuple #[.int .i64 (8192 + o % 256), .bool true]) ∧ Up w w' := by
  go_enter Try.func7, Try.ntmps7
  go_wp2_with (first | (go_at_call 15; refine (zero_any _ _ o _ (by go_simp)).mono ?_; rintro e w' ⟨rfl, rfl⟩) | (go_at_call 17; refine (far_any _ _ _).mono ?_; rintro e w' ⟨rfl, rfl⟩))
  go_ret2
  exact ⟨by first | rfl | simp, (by repeat (first | exact Up.refl _ | assumption | refine Up.drew ?_ | refine Up.alloc ?_ _ | refine Up.trans ?_ (by assumption)))⟩
theorem address_15 (x y o p : Int) (w : World) :
    Calls Try.prog 7 #[.int .i64 15, .agg #[.int .i64 x, .int .i64 y], .int .i64 o, .int .i64 p] w fun e w' => e = .returned (.tuple #[.int .i64 (8192 + o % 256), .bool true]) ∧ Up w w' := by
  go_enter Try.func7, Try.ntmps7
  go_wp2_with (first | (go_at_call 15; refine (zero_any _ _ o _ (by go_simp)).mono ?_; rintro e w' ⟨rfl, rfl⟩) | (go_at_call 17; refine (far_any _ _ _).mono ?_; rintro e w' ⟨rfl, rfl⟩))
  go_ret2
  exact ⟨by first | rfl | simp, (by repeat (first | exact Up.refl _ | assumption | refine Up.drew ?_ | refine Up.alloc ?_ _ | refine Up.trans ?_ (by assumption)))⟩
theorem address_17 (x y o p : Int) (w : World) :
    Calls Try.prog 7 #[.int .i64 17, .agg #[.int .i64 x, .int .i64 y], .int .i64 o, .int .i64 p] w fun e w' => e = .returned (.tuple #[.int .i64 (8192 + o % 256), .bool true]) ∧ Up w w' := by
  go_enter Try.func7, Try.ntmps7
  go_wp2_with (first | (go_at_call 15; refine (zero_any _ _ o _ (by go_simp)).mono ?_; rintro e w' ⟨rfl, rfl⟩) | (go_at_call 17; refine (far_any _ _ _).mono ?_; rintro e w' ⟨rfl, rfl⟩))
  go_ret2
  exact ⟨by first | rfl | simp, (by repeat (first | exact Up.refl _ | assumption | refine Up.drew ?_ | refine Up.alloc ?_ _ | refine Up.trans ?_ (by assumption)))⟩
theorem address_4 (x y o p : Int) (w : World) :
    Calls Try.prog 7 #[.int .i64 4, .agg #[.int .i64 x, .int .i64 y], .int .i64 o, .int .i64 p] w fun e w' => e = .returned (.tuple #[.int .i64 (8192 + (o + x) % 256), .bool true]) ∧ Up w w' := by
  go_enter Try.func7, Try.ntmps7
  go_wp2_with (first | (go_at_call 15; refine (zero_any _ _ o _ (by go_simp)).mono ?_; rintro e w' ⟨rfl, rfl⟩) | (go_at_call 17; refine (far_any _ _ _).mono ?_; rintro e w' ⟨rfl, rfl⟩))
  go_ret2
  exact ⟨by first | rfl | simp, (by repeat (first | exact Up.refl _ | assumption | refine Up.drew ?_ | refine Up.alloc ?_ _ | refine Up.trans ?_ (by assumption)))⟩
theorem address_18 (x y o p : Int) (w : World) :
    Calls Try.prog 7 #[.int .i64 18, .agg #[.int .i64 x, .int .i64 y], .int .i64 o, .int .i64 p] w fun e w' => e = .returned (.tuple #[.int .i64 (8192 + (o + x) % 256), .bool true]) ∧ Up w w' := by
  go_enter Try.func7, Try.ntmps7
  go_wp2_with (first | (go_at_call 15; refine (zero_any _ _ o _ (by go_simp)).mono ?_; rintro e w' ⟨rfl, rfl⟩) | (go_at_call 17; refine (far_any _ _ _).mono ?_; rintro e w' ⟨rfl, rfl⟩))
  go_ret2
  exact ⟨by first | rfl | simp, (by repeat (first | exact Up.refl _ | assumption | refine Up.drew ?_ | refine Up.alloc ?_ _ | refine Up.trans ?_ (by assumption)))⟩
theorem address_5 (x y o p : Int) (w : World) :
    Calls Try.prog 7 #[.int .i64 5, .agg #[.int .i64 x, .int .i64 y], .int .i64 o, .int .i64 p] w fun e w' => e = .returned (.tuple #[.int .i64 (8192 + (o + y) % 256), .bool true]) ∧ Up w w' := by
  go_enter Try.func7, Try.ntmps7
  go_wp2_with (first | (go_at_call 15; refine (zero_any _ _ o _ (by go_simp)).mono ?_; rintro e w' ⟨rfl, rfl⟩) | (go_at_call 17; refine (far_any _ _ _).mono ?_; rintro e w' ⟨rfl, rfl⟩))
  go_ret2
  exact ⟨by first | rfl | simp, (by repeat (first | exact Up.refl _ | assumption | refine Up.drew ?_ | refine Up.alloc ?_ _ | refine Up.trans ?_ (by assumption)))⟩
theorem address_9 (x y o p : Int) (w : World) :
    Calls Try.prog 7 #[.int .i64 9, .agg #[.int .i64 x, .int .i64 y], .int .i64 o, .int .i64 p] w fun e w' => e = .returned (.tuple #[.int .i64 (o % 65536), .bool true]) ∧ Up w w' := by
  go_enter Try.func7, Try.ntmps7
  go_wp2_with (first | (go_at_call 15; refine (zero_any _ _ o _ (by go_simp)).mono ?_; rintro e w' ⟨rfl, rfl⟩) | (go_at_call 17; refine (far_any _ _ _).mono ?_; rintro e w' ⟨rfl, rfl⟩))
  go_ret2
  exact ⟨by first | rfl | simp, (by repeat (first | exact Up.refl _ | assumption | refine Up.drew ?_ | refine Up.alloc ?_ _ | refine Up.trans ?_ (by assumption)))⟩
theorem address_19 (x y o p : Int) (w : World) :
    Calls Try.prog 7 #[.int .i64 19, .agg #[.int .i64 x, .int .i64 y], .int .i64 o, .int .i64 p] w fun e w' => e = .returned (.tuple #[.int .i64 (o % 65536), .bool true]) ∧ Up w w' := by
  go_enter Try.func7, Try.ntmps7
  go_wp2_with (first | (go_at_call 15; refine (zero_any _ _ o _ (by go_simp)).mono ?_; rintro e w' ⟨rfl, rfl⟩) | (go_at_call 17; refine (far_any _ _ _).mono ?_; rintro e w' ⟨rfl, rfl⟩))
  go_ret2
  exact ⟨by first | rfl | simp, (by repeat (first | exact Up.refl _ | assumption | refine Up.drew ?_ | refine Up.alloc ?_ _ | refine Up.trans ?_ (by assumption)))⟩
theorem address_10 (x y o p : Int) (w : World) :
    Calls Try.prog 7 #[.int .i64 10, .agg #[.int .i64 x, .int .i64 y], .int .i64 o, .int .i64 p] w fun e w' => e = .returned (.tuple #[.int .i64 ((o + x) % 65536), .bool true]) ∧ Up w w' := by
  go_enter Try.func7, Try.ntmps7
  go_wp2_with (first | (go_at_call 15; refine (zero_any _ _ o _ (by go_simp)).mono ?_; rintro e w' ⟨rfl, rfl⟩) | (go_at_call 17; refine (far_any _ _ _).mono ?_; rintro e w' ⟨rfl, rfl⟩))
  go_ret2
  exact ⟨by first | rfl | simp, (by repeat (first | exact Up.refl _ | assumption | refine Up.drew ?_ | refine Up.alloc ?_ _ | refine Up.trans ?_ (by assumption)))⟩
theorem address_20 (x y o p : Int) (w : World) :
    Calls Try.prog 7 #[.int .i64 20, .agg #[.int .i64 x, .int .i64 y], .int .i64 o, .int .i64 p] w fun e w' => e = .returned (.tuple #[.int .i64 ((o + x) % 65536), .bool true]) ∧ Up w w' := by
  go_enter Try.func7, Try.ntmps7
  go_wp2_with (first | (go_at_call 15; refine (zero_any _ _ o _ (by go_simp)).mono ?_; rintro e w' ⟨rfl, rfl⟩) | (go_at_call 17; refine (far_any _ _ _).mono ?_; rintro e w' ⟨rfl, rfl⟩))
  go_ret2
  exact ⟨by first | rfl | simp, (by repeat (first | exact Up.refl _ | assumption | refine Up.drew ?_ | refine Up.alloc ?_ _ | refine Up.trans ?_ (by assumption)))⟩
theorem address_11 (x y o p : Int) (w : World) :
    Calls Try.prog 7 #[.int .i64 11, .agg #[.int .i64 x, .int .i64 y], .int .i64 o, .int .i64 p] w fun e w' => e = .returned (.tuple #[.int .i64 ((o + y) % 65536), .bool true]) ∧ Up w w' := by
  go_enter Try.func7, Try.ntmps7
  go_wp2_with (first | (go_at_call 15; refine (zero_any _ _ o _ (by go_simp)).mono ?_; rintro e w' ⟨rfl, rfl⟩) | (go_at_call 17; refine (far_any _ _ _).mono ?_; rintro e w' ⟨rfl, rfl⟩))
  go_ret2
  exact ⟨by first | rfl | simp, (by repeat (first | exact Up.refl _ | assumption | refine Up.drew ?_ | refine Up.alloc ?_ _ | refine Up.trans ?_ (by assumption)))⟩
theorem address_6 (x y o p : Int) (w : World) :
    Calls Try.prog 7 #[.int .i64 6, .agg #[.int .i64 x, .int .i64 y], .int .i64 o, .int .i64 p] w fun e w' => e = .returned (.tuple #[.int .i64 (p % 65536), .bool true]) ∧ Up w w' := by
  go_enter Try.func7, Try.ntmps7
  go_wp2_with (first | (go_at_call 15; refine (zero_any _ _ o _ (by go_simp)).mono ?_; rintro e w' ⟨rfl, rfl⟩) | (go_at_call 17; refine (far_any _ _ _).mono ?_; rintro e w' ⟨rfl, rfl⟩))
  go_ret2
  exact ⟨by first | rfl | simp, (by repeat (first | exact Up.refl _ | assumption | refine Up.drew ?_ | refine Up.alloc ?_ _ | refine Up.trans ?_ (by assumption)))⟩
theorem address_8 (x y o p : Int) (w : World) :
    Calls Try.prog 7 #[.int .i64 8, .agg #[.int .i64 x, .int .i64 y], .int .i64 o, .int .i64 p] w fun e w' => e = .returned (.tuple #[.int .i64 (p % 65536), .bool true]) ∧ Up w w' := by
  go_enter Try.func7, Try.ntmps7
  go_wp2_with (first | (go_at_call 15; refine (zero_any _ _ o _ (by go_simp)).mono ?_; rintro e w' ⟨rfl, rfl⟩) | (go_at_call 17; refine (far_any _ _ _).mono ?_; rintro e w' ⟨rfl, rfl⟩))
  go_ret2
  exact ⟨by first | rfl | simp, (by repeat (first | exact Up.refl _ | assumption | refine Up.drew ?_ | refine Up.alloc ?_ _ | refine Up.trans ?_ (by assumption)))⟩
theorem address_12 (x y o p : Int) (w : World) :
    Calls Try.prog 7 #[.int .i64 12, .agg #[.int .i64 x, .int .i64 y], .int .i64 o, .int .i64 p] w fun e w' => e = .returned (.tuple #[.int .i64 (p % 65536), .bool true]) ∧ Up w w' := by
  go_enter Try.func7, Try.ntmps7
  go_wp2_with (first | (go_at_call 15; refine (zero_any _ _ o _ (by go_simp)).mono ?_; rintro e w' ⟨rfl, rfl⟩) | (go_at_call 17; refine (far_any _ _ _).mono ?_; rintro e w' ⟨rfl, rfl⟩))
  go_ret2
  exact ⟨by first | rfl | simp, (by repeat (first | exact Up.refl _ | assumption | refine Up.drew ?_ | refine Up.alloc ?_ _ | refine Up.trans ?_ (by assumption)))⟩
theorem address_13 (x y o p : Int) (w : World) :
    Calls Try.prog 7 #[.int .i64 13, .agg #[.int .i64 x, .int .i64 y], .int .i64 o, .int .i64 p] w fun e w' => e = .returned (.tuple #[.int .i64 (p % 65536), .bool true]) ∧ Up w w' := by
  go_enter Try.func7, Try.ntmps7
  go_wp2_with (first | (go_at_call 15; refine (zero_any _ _ o _ (by go_simp)).mono ?_; rintro e w' ⟨rfl, rfl⟩) | (go_at_call 17; refine (far_any _ _ _).mono ?_; rintro e w' ⟨rfl, rfl⟩))
  go_ret2
  exact ⟨by first | rfl | simp, (by repeat (first | exact Up.refl _ | assumption | refine Up.drew ?_ | refine Up.alloc ?_ _ | refine Up.trans ?_ (by assumption)))⟩
theorem address_7 (x y o p : Int) (w : World) :
    Calls Try.prog 7 #[.int .i64 7, .agg #[.int .i64 x, .int .i64 y], .int .i64 o, .int .i64 p] w fun e w' => e = .returned (.tuple #[.int .i64 ((p + y) % 65536), .bool true]) ∧ Up w w' := by
  go_enter Try.func7, Try.ntmps7
  go_wp2_with (first | (go_at_call 15; refine (zero_any _ _ o _ (by go_simp)).mono ?_; rintro e w' ⟨rfl, rfl⟩) | (go_at_call 17; refine (far_any _ _ _).mono ?_; rintro e w' ⟨rfl, rfl⟩))
  go_ret2
  exact ⟨by first | rfl | simp, (by repeat (first | exact Up.refl _ | assumption | refine Up.drew ?_ | refine Up.alloc ?_ _ | refine Up.trans ?_ (by assumption)))⟩
theorem address_any (m x y o p : Int) (w : World) :
    Calls Try.prog 7 #[.int .i64 m, .agg #[.int .i64 x, .int .i64 y], .int .i64 o, .int .i64 p] w fun e w' => e = .returned (.tuple #[.int .i64 (vA m x y o p), .bool (vOk m)]) ∧ Up w w' := by
  cases h : vOk m
  · have e : vA m x y o p = 0 := by
      simp only [vOk, decide_eq_false_iff_not] at h
      unfold vA
      rw [if_neg (by omega), if_neg (by omega), if_neg (by omega), if_neg (by omega), if_neg (by omega), if_neg (by omega), if_neg (by omega), if_neg (by omega)]
    rw [e]
    exact address_none m x y o p w h
  · simp only [vOk, decide_eq_true_eq] at h
    have : m = 3 ∨ m = 15 ∨ m = 17 ∨ m = 4 ∨ m = 18 ∨ m = 5 ∨ m = 9 ∨ m = 19 ∨ m = 10 ∨ m = 20 ∨ m = 11 ∨ m = 6 ∨ m = 8 ∨ m = 12 ∨ m = 13 ∨ m = 7 := by omega
    rcases this with rfl | rfl | rfl | rfl | rfl | rfl | rfl | rfl | rfl | rfl | rfl | rfl | rfl | rfl | rfl | rfl
    · exact address_3 x y o p w
    · exact address_15 x y o p w
    · exact address_17 x y o p w
    · exact address_4 x y o p w
    · exact address_18 x y o p w
    · exact address_5 x y o p w
    · exact address_9 x y o p w
    · exact address_19 x y o p w
    · exact address_10 x y o p w
    · exact address_20 x y o p w
    · exact address_11 x y o p w
    · exact address_6 x y o p w
    · exact address_8 x y o p w
    · exact address_12 x y o p w
    · exact address_13 x y o p w
    · exact address_7 x y o p w

def vP (m x o : Int) : Int := if m = 6 then 8192 + (o + x) % 256 else if m = 7 ∨ m = 8 then 8192 + o % 256 else if m = 13 then (o + x) % 65536 else if m = 12 then o % 65536 else 0
def vPw (m : Int) : Bool := decide (m = 6 ∨ m = 7 ∨ m = 8)
def vPh (m : Int) : Bool := decide (m = 6 ∨ m = 7 ∨ m = 8 ∨ m = 12 ∨ m = 13)
theorem pointer_6 (x o : Int) (w : World) : Calls Try.prog 10 #[.int .i64 6, .int .i64 x, .int .i64 o] w fun e w' => e = .returned (.tuple #[.int .i64 (8192 + (o + x) % 256), .bool true, .bool true]) ∧ w = w' := by
  have E1 := Lib.hid (show bits .or .i64 8192 (wrap64 (o + x) % 256) = 8192 + (o + x) % 256 by rw [w64_256]; exact or8192 _ (by omega) (by omega))
  have E2 := Lib.hid (show bits .or .i64 8192 (o % 256) = 8192 + o % 256 from or8192 _ (by omega) (by omega))
  have E3 := Lib.hid (w64_65536 (o + x))
  go_enter Try.func10, Try.ntmps10
  go_wp2_with (first | (go_at_call 16; refine (byte_any _ _).mono ?_; rintro e w' ⟨rfl, rfl⟩) | (go_at_call 18; refine (word_any _ _).mono ?_; rintro e w' ⟨rfl, rfl⟩))
  go_ret3
  exact ⟨by first | rfl | (rw [← E1.out]; rfl) | (rw [← E2.out]; rfl) | (rw [← E3.out]; rfl), rfl⟩
theorem pointer_7 (x o : Int) (w : World) : Calls Try.prog 10 #[.int .i64 7, .int .i64 x, .int .i64 o] w fun e w' => e = .returned (.tuple #[.int .i64 (8192 + o % 256), .bool true, .bool true]) ∧ w = w' := by
  have E1 := Lib.hid (show bits .or .i64 8192 (wrap64 (o + x) % 256) = 8192 + (o + x) % 256 by rw [w64_256]; exact or8192 _ (by omega) (by omega))
  have E2 := Lib.hid (show bits .or .i64 8192 (o % 256) = 8192 + o % 256 from or8192 _ (by omega) (by omega))
  have E3 := Lib.hid (w64_65536 (o + x))
  go_enter Try.func10, Try.ntmps10
  go_wp2_with (first | (go_at_call 16; refine (byte_any _ _).mono ?_; rintro e w' ⟨rfl, rfl⟩) | (go_at_call 18; refine (word_any _ _).mono ?_; rintro e w' ⟨rfl, rfl⟩))
  go_ret3
  exact ⟨by first | rfl | (rw [← E1.out]; rfl) | (rw [← E2.out]; rfl) | (rw [← E3.out]; rfl), rfl⟩
theorem pointer_8 (x o : Int) (w : World) : Calls Try.prog 10 #[.int .i64 8, .int .i64 x, .int .i64 o] w fun e w' => e = .returned (.tuple #[.int .i64 (8192 + o % 256), .bool true, .bool true]) ∧ w = w' := by
  have E1 := Lib.hid (show bits .or .i64 8192 (wrap64 (o + x) % 256) = 8192 + (o + x) % 256 by rw [w64_256]; exact or8192 _ (by omega) (by omega))
  have E2 := Lib.hid (show bits .or .i64 8192 (o % 256) = 8192 + o % 256 from or8192 _ (by omega) (by omega))
  have E3 := Lib.hid (w64_65536 (o + x))
  go_enter Try.func10, Try.ntmps10
  go_wp2_with (first | (go_at_call 16; refine (byte_any _ _).mono ?_; rintro e w' ⟨rfl, rfl⟩) | (go_at_call 18; refine (word_any _ _).mono ?_; rintro e w' ⟨rfl, rfl⟩))
  go_ret3
  exact ⟨by first | rfl | (rw [← E1.out]; rfl) | (rw [← E2.out]; rfl) | (rw [← E3.out]; rfl), rfl⟩
theorem pointer_12 (x o : Int) (w : World) : Calls Try.prog 10 #[.int .i64 12, .int .i64 x, .int .i64 o] w fun e w' => e = .returned (.tuple #[.int .i64 (o % 65536), .bool false, .bool true]) ∧ w = w' := by
  have E1 := Lib.hid (show bits .or .i64 8192 (wrap64 (o + x) % 256) = 8192 + (o + x) % 256 by rw [w64_256]; exact or8192 _ (by omega) (by omega))
  have E2 := Lib.hid (show bits .or .i64 8192 (o % 256) = 8192 + o % 256 from or8192 _ (by omega) (by omega))
  have E3 := Lib.hid (w64_65536 (o + x))
  go_enter Try.func10, Try.ntmps10
  go_wp2_with (first | (go_at_call 16; refine (byte_any _ _).mono ?_; rintro e w' ⟨rfl, rfl⟩) | (go_at_call 18; refine (word_any _ _).mono ?_; rintro e w' ⟨rfl, rfl⟩))
  go_ret3
  exact ⟨by first | rfl | (rw [← E1.out]; rfl) | (rw [← E2.out]; rfl) | (rw [← E3.out]; rfl), rfl⟩
theorem pointer_13 (x o : Int) (w : World) : Calls Try.prog 10 #[.int .i64 13, .int .i64 x, .int .i64 o] w fun e w' => e = .returned (.tuple #[.int .i64 ((o + x) % 65536), .bool false, .bool true]) ∧ w = w' := by
  have E1 := Lib.hid (show bits .or .i64 8192 (wrap64 (o + x) % 256) = 8192 + (o + x) % 256 by rw [w64_256]; exact or8192 _ (by omega) (by omega))
  have E2 := Lib.hid (show bits .or .i64 8192 (o % 256) = 8192 + o % 256 from or8192 _ (by omega) (by omega))
  have E3 := Lib.hid (w64_65536 (o + x))
  go_enter Try.func10, Try.ntmps10
  go_wp2_with (first | (go_at_call 16; refine (byte_any _ _).mono ?_; rintro e w' ⟨rfl, rfl⟩) | (go_at_call 18; refine (word_any _ _).mono ?_; rintro e w' ⟨rfl, rfl⟩))
  go_ret3
  exact ⟨by first | rfl | (rw [← E1.out]; rfl) | (rw [← E2.out]; rfl) | (rw [← E3.out]; rfl), rfl⟩
theorem pointer_none (m x o : Int) (w : World) (h : vPh m = false) : Calls Try.prog 10 #[.int .i64 m, .int .i64 x, .int .i64 o] w fun e w' => e = .returned (.tuple #[.int .i64 0, .bool false, .bool false]) ∧ w = w' := by
  simp only [vPh, decide_eq_false_iff_not] at h
  have n6 : (m == 6) = false := beq_eq_false_iff_ne.2 (by omega)
  have n7 : (m == 7) = false := beq_eq_false_iff_ne.2 (by omega)
  have n8 : (m == 8) = false := beq_eq_false_iff_ne.2 (by omega)
  have n12 : (m == 12) = false := beq_eq_false_iff_ne.2 (by omega)
  have n13 : (m == 13) = false := beq_eq_false_iff_ne.2 (by omega)
  clear h
  go_enter Try.func10, Try.ntmps10
  go_wp2
  go_ret3
  exact ⟨rfl, rfl⟩
theorem pointer_any (m x o : Int) (w : World) : Calls Try.prog 10 #[.int .i64 m, .int .i64 x, .int .i64 o] w fun e w' => e = .returned (.tuple #[.int .i64 (vP m x o), .bool (vPw m), .bool (vPh m)]) ∧ w = w' := by
  cases h : vPh m
  · have e : vP m x o = 0 := by
      simp only [vPh, decide_eq_false_iff_not] at h
      unfold vP
      rw [if_neg (by omega), if_neg (by omega), if_neg (by omega), if_neg (by omega)]
    have e2 : vPw m = false := by
      simp only [vPh, decide_eq_false_iff_not] at h
      unfold vPw
      rw [decide_eq_false_iff_not]; omega
    rw [e, e2]
    exact pointer_none m x o w h
  · simp only [vPh, decide_eq_true_eq] at h
    rcases h with rfl | rfl | rfl | rfl | rfl
    · exact pointer_6 x o w
    · exact pointer_7 x o w
    · exact pointer_8 x o w
    · exact pointer_12 x o w
    · exact pointer_13 x o w

def vT (pc f : Int) : Int := (pc + ((f + 128) % 256 - 128)) % 65536
theorem target_any (pc f : Int) (w : World) : Calls Try.prog 8 #[.int .i64 pc, .int .i64 f] w fun e w' => e = .returned (.int .i64 (vT pc f)) ∧ w = w' := by
  have E := Lib.hid (w64_65536 (pc + ((f + 128) % 256 - 128)))
  have h0 : 0 ≤ (f + 128) % 256 := by omega
  have h1 : (f + 128) % 256 ≤ 255 := by omega
  go_enter Try.func8, Try.ntmps8
  go_wp2_with (first | (go_at_call 19; refine (signed_any _ _).mono ?_; rintro e w' ⟨rfl, rfl⟩) | (go_at_call 18; refine (word_any _ _).mono ?_; rintro e w' ⟨rfl, rfl⟩))
  go_ret
  exact ⟨by first | rfl | (unfold vT; rw [← E.out]; rfl), rfl⟩
def vAf (a : Int) (wr : Bool) : Int := if wr = true then 8192 + (a + 1) % 256 else (a + 1) % 65536
theorem after_any (a : Int) (wr : Bool) (w : World) : Calls Try.prog 9 #[.int .i64 a, .bool wr] w fun e w' => e = .returned (.int .i64 (vAf a wr)) ∧ w = w' := by
  have E1 := Lib.hid (show bits .or .i64 8192 (wrap64 (a + 1) % 256) = 8192 + (a + 1) % 256 by rw [w64_256]; exact or8192 _ (by omega) (by omega))
  have E3 := Lib.hid (w64_65536 (a + 1))
  cases wr
  · go_enter Try.func9, Try.ntmps9
    go_wp2_with (first | (go_at_call 16; refine (byte_any _ _).mono ?_; rintro e w' ⟨rfl, rfl⟩) | (go_at_call 18; refine (word_any _ _).mono ?_; rintro e w' ⟨rfl, rfl⟩))
    go_ret
    exact ⟨ret_int (by rw [E3.out]; rfl), rfl⟩
  · go_enter Try.func9, Try.ntmps9
    go_wp2_with (first | (go_at_call 16; refine (byte_any _ _).mono ?_; rintro e w' ⟨rfl, rfl⟩) | (go_at_call 18; refine (word_any _ _).mono ?_; rintro e w' ⟨rfl, rfl⟩))
    go_ret
    exact ⟨ret_int (by rw [E1.out]; rfl), rfl⟩
end Go.Proofs.Ytmbfcbjnidgieaa
