/- Contracts of the functions of the reference of the package mode: what each returns. -/
import Derived.Test.YtmbfcbjnidgieaaA
namespace Go.Proofs.Ytmbfcbjnidgieaa
open Go.RowKit
set_option linter.unusedVariables false

theorem rzero_any (n : Int) (hn : -9223372036854775808 ≤ n ∧ n ≤ 9223372036854775807) (w : World) : Calls Try.prog 20 #[.int .i64 n] w fun e w' => e = .returned (.int .i64 (8192 + n % 256)) ∧ w = w' := by
  have h0 : 0 ≤ n % 256 := by omega
  have h1 : n % 256 ≤ 255 := by omega
  go_enter Try.func20, Try.ntmps20
  go_wp2_with (go_at_call 24; refine (rbyte_any _ _ hn).mono ?_; rintro e w' ⟨rfl, rfl⟩)
  go_ret
  exact ⟨rfl, rfl⟩
theorem radd_any (a b : Int) (ha : -9223372036854775808 ≤ a ∧ a ≤ 9223372036854775807) (hb : -9223372036854775808 ≤ b ∧ b ≤ 9223372036854775807) (w : World) : Calls Try.prog 21 #[.int .i64 a, .int .i64 b] w fun e w' => e = .returned (.int .i64 ((a + b) % 65536)) ∧ w = w' := by
  have h0 : 0 ≤ a % 65536 := by omega
  have h1 : a % 65536 ≤ 65535 := by omega
  have h2 : 0 ≤ b % 65536 := by omega
  have h3 : b % 65536 ≤ 65535 := by omega
  have E := Lib.hid (show (a % 65536 + b % 65536) % 65536 = (a + b) % 65536 by omega)
  have WS := Lib.hid (fun w => rword_any (a % 65536 + b % 65536) w (by omega))
  have WA := Lib.hid (fun w => rword_any a w ha)
  have WB := Lib.hid (fun w => rword_any b w hb)
  go_enter Try.func21, Try.ntmps21
  go_wp2_with fail
  refine (WA.out _).mono ?_; rintro e w' ⟨rfl, rfl⟩
  go_wp2_with fail
  refine (WB.out _).mono ?_; rintro e w' ⟨rfl, rfl⟩
  go_wp2_with fail
  refine (WS.out _).mono ?_; rintro e w' ⟨rfl, rfl⟩
  go_wp2
  go_ret
  exact ⟨ret_int (by first | exact E.out | simp), rfl⟩
theorem raddress_3 (x y o p : Int) (hx : -9223372036854775808 ≤ x ∧ x ≤ 9223372036854775807) (hy : -9223372036854775808 ≤ y ∧ y ≤ 9223372036854775807) (ho : -9223372036854775808 ≤ o ∧ o ≤ 9223372036854775807) (hp : -9223372036854775808 ≤ p ∧ p ≤ 9223372036854775807) (w : World) :
    Calls Try.prog 12 #[.int .i64 3, .int .i64 x, .int .i64 y, .int .i64 o, .int .i64 p] w fun e w' => e = .returned (.tuple #[.int .i64 (8192 + o % 256), .bool true]) ∧ w = w' := by
  have ZE := Lib.hid (fun w => rzero_any o ho w)
  have AD := ZE
  have WO := ZE
  clear hx hy ho hp
  go_enter Try.func12, Try.ntmps12
  go_wp2_with (first | (go_at_call 21; refine (AD.out _).mono ?_; rintro e w' ⟨rfl, rfl⟩) | (go_at_call 20; refine (ZE.out _).mono ?_; rintro e w' ⟨rfl, rfl⟩) | (go_at_call 22; refine (WO.out _).mono ?_; rintro e w' ⟨rfl, rfl⟩))
  go_ret2
  exact ⟨by first | rfl | simp, rfl⟩
theorem raddress_15 (x y o p : Int) (hx : -9223372036854775808 ≤ x ∧ x ≤ 9223372036854775807) (hy : -9223372036854775808 ≤ y ∧ y ≤ 9223372036854775807) (ho : -9223372036854775808 ≤ o ∧ o ≤ 9223372036854775807) (hp : -9223372036854775808 ≤ p ∧ p ≤ 9223372036854775807) (w : World) :
    Calls Try.prog 12 #[.int .i64 15, .int .i64 x, .int .i64 y, .int .i64 o, .int .i64 p] w fun e w' => e = .returned (.tuple #[.int .i64 (8192 + o % 256), .bool true]) ∧ w = w' := by
  have ZE := Lib.hid (fun w => rzero_any o ho w)
  have AD := ZE
  have WO := ZE
  clear hx hy ho hp
  go_enter Try.func12, Try.ntmps12
  go_wp2_with (first | (go_at_call 21; refine (AD.out _).mono ?_; rintro e w' ⟨rfl, rfl⟩) | (go_at_call 20; refine (ZE.out _).mono ?_; rintro e w' ⟨rfl, rfl⟩) | (go_at_call 22; refine (WO.out _).mono ?_; rintro e w' ⟨rfl, rfl⟩))
  go_ret2
  exact ⟨by first | rfl | simp, rfl⟩
theorem raddress_17 (x y o p : Int) (hx : -9223372036854775808 ≤ x ∧ x ≤ 9223372036854775807) (hy : -9223372036854775808 ≤ y ∧ y ≤ 9223372036854775807) (ho : -9223372036854775808 ≤ o ∧ o ≤ 9223372036854775807) (hp : -9223372036854775808 ≤ p ∧ p ≤ 9223372036854775807) (w : World) :
    Calls Try.prog 12 #[.int .i64 17, .int .i64 x, .int .i64 y, .int .i64 o, .int .i64 p] w fun e w' => e = .returned (.tuple #[.int .i64 (8192 + o % 256), .bool true]) ∧ w = w' := by
  have ZE := Lib.hid (fun w => rzero_any o ho w)
  have AD := ZE
  have WO := ZE
  clear hx hy ho hp
  go_enter Try.func12, Try.ntmps12
  go_wp2_with (first | (go_at_call 21; refine (AD.out _).mono ?_; rintro e w' ⟨rfl, rfl⟩) | (go_at_call 20; refine (ZE.out _).mono ?_; rintro e w' ⟨rfl, rfl⟩) | (go_at_call 22; refine (WO.out _).mono ?_; rintro e w' ⟨rfl, rfl⟩))
  go_ret2
  exact ⟨by first | rfl | simp, rfl⟩
theorem raddress_4 (x y o p : Int) (hx : -9223372036854775808 ≤ x ∧ x ≤ 9223372036854775807) (hy : -9223372036854775808 ≤ y ∧ y ≤ 9223372036854775807) (ho : -9223372036854775808 ≤ o ∧ o ≤ 9223372036854775807) (hp : -9223372036854775808 ≤ p ∧ p ≤ 9223372036854775807) (w : World) :
    Calls Try.prog 12 #[.int .i64 4, .int .i64 x, .int .i64 y, .int .i64 o, .int .i64 p] w fun e w' => e = .returned (.tuple #[.int .i64 (8192 + (o + x) % 256), .bool true]) ∧ w = w' := by
  have AD := Lib.hid (fun w => radd_any o x ho hx w)
  have ZE := Lib.hid (fun w => rzero_any ((o + x) % 65536) (by omega) w)
  have WO := AD
  clear hx hy ho hp
  go_enter Try.func12, Try.ntmps12
  go_wp2_with (first | (go_at_call 21; refine (AD.out _).mono ?_; rintro e w' ⟨rfl, rfl⟩) | (go_at_call 20; refine (ZE.out _).mono ?_; rintro e w' ⟨rfl, rfl⟩) | (go_at_call 22; refine (WO.out _).mono ?_; rintro e w' ⟨rfl, rfl⟩))
  go_ret2
  exact ⟨by first | rfl | simp, rfl⟩
theorem raddress_18 (x y o p : Int) (hx : -9223372036854775808 ≤ x ∧ x ≤ 9223372036854775807) (hy : -9223372036854775808 ≤ y ∧ y ≤ 9223372036854775807) (ho : -9223372036854775808 ≤ o ∧ o ≤ 9223372036854775807) (hp : -9223372036854775808 ≤ p ∧ p ≤ 9223372036854775807) (w : World) :
    Calls Try.prog 12 #[.int .i64 18, .int .i64 x, .int .i64 y, .int .i64 o, .int .i64 p] w fun e w' => e = .returned (.tuple #[.int .i64 (8192 + (o + x) % 256), .bool true]) ∧ w = w' := by
  have AD := Lib.hid (fun w => radd_any o x ho hx w)
  have ZE := Lib.hid (fun w => rzero_any ((o + x) % 65536) (by omega) w)
  have WO := AD
  clear hx hy ho hp
  go_enter Try.func12, Try.ntmps12
  go_wp2_with (first | (go_at_call 21; refine (AD.out _).mono ?_; rintro e w' ⟨rfl, rfl⟩) | (go_at_call 20; refine (ZE.out _).mono ?_; rintro e w' ⟨rfl, rfl⟩) | (go_at_call 22; refine (WO.out _).mono ?_; rintro e w' ⟨rfl, rfl⟩))
  go_ret2
  exact ⟨by first | rfl | simp, rfl⟩
theorem raddress_5 (x y o p : Int) (hx : -9223372036854775808 ≤ x ∧ x ≤ 9223372036854775807) (hy : -9223372036854775808 ≤ y ∧ y ≤ 9223372036854775807) (ho : -9223372036854775808 ≤ o ∧ o ≤ 9223372036854775807) (hp : -9223372036854775808 ≤ p ∧ p ≤ 9223372036854775807) (w : World) :
    Calls Try.prog 12 #[.int .i64 5, .int .i64 x, .int .i64 y, .int .i64 o, .int .i64 p] w fun e w' => e = .returned (.tuple #[.int .i64 (8192 + (o + y) % 256), .bool true]) ∧ w = w' := by
  have AD := Lib.hid (fun w => radd_any o y ho hy w)
  have ZE := Lib.hid (fun w => rzero_any ((o + y) % 65536) (by omega) w)
  have WO := AD
  clear hx hy ho hp
  go_enter Try.func12, Try.ntmps12
  go_wp2_with (first | (go_at_call 21; refine (AD.out _).mono ?_; rintro e w' ⟨rfl, rfl⟩) | (go_at_call 20; refine (ZE.out _).mono ?_; rintro e w' ⟨rfl, rfl⟩) | (go_at_call 22; refine (WO.out _).mono ?_; rintro e w' ⟨rfl, rfl⟩))
  go_ret2
  exact ⟨by first | rfl | simp, rfl⟩
theorem raddress_9 (x y o p : Int) (hx : -9223372036854775808 ≤ x ∧ x ≤ 9223372036854775807) (hy : -9223372036854775808 ≤ y ∧ y ≤ 9223372036854775807) (ho : -9223372036854775808 ≤ o ∧ o ≤ 9223372036854775807) (hp : -9223372036854775808 ≤ p ∧ p ≤ 9223372036854775807) (w : World) :
    Calls Try.prog 12 #[.int .i64 9, .int .i64 x, .int .i64 y, .int .i64 o, .int .i64 p] w fun e w' => e = .returned (.tuple #[.int .i64 (o % 65536), .bool true]) ∧ w = w' := by
  have WO := Lib.hid (fun w => rword_any o w ho)
  have AD := WO
  have ZE := WO
  clear hx hy ho hp
  go_enter Try.func12, Try.ntmps12
  go_wp2_with (first | (go_at_call 21; refine (AD.out _).mono ?_; rintro e w' ⟨rfl, rfl⟩) | (go_at_call 20; refine (ZE.out _).mono ?_; rintro e w' ⟨rfl, rfl⟩) | (go_at_call 22; refine (WO.out _).mono ?_; rintro e w' ⟨rfl, rfl⟩))
  go_ret2
  exact ⟨by first | rfl | simp, rfl⟩
theorem raddress_19 (x y o p : Int) (hx : -9223372036854775808 ≤ x ∧ x ≤ 9223372036854775807) (hy : -9223372036854775808 ≤ y ∧ y ≤ 9223372036854775807) (ho : -9223372036854775808 ≤ o ∧ o ≤ 9223372036854775807) (hp : -9223372036854775808 ≤ p ∧ p ≤ 9223372036854775807) (w : World) :
    Calls Try.prog 12 #[.int .i64 19, .int .i64 x, .int .i64 y, .int .i64 o, .int .i64 p] w fun e w' => e = .returned (.tuple #[.int .i64 (o % 65536), .bool true]) ∧ w = w' := by
  have WO := Lib.hid (fun w => rword_any o w ho)
  have AD := WO
  have ZE := WO
  clear hx hy ho hp
  go_enter Try.func12, Try.ntmps12
  go_wp2_with (first | (go_at_call 21; refine (AD.out _).mono ?_; rintro e w' ⟨rfl, rfl⟩) | (go_at_call 20; refine (ZE.out _).mono ?_; rintro e w' ⟨rfl, rfl⟩) | (go_at_call 22; refine (WO.out _).mono ?_; rintro e w' ⟨rfl, rfl⟩))
  go_ret2
  exact ⟨by first | rfl | simp, rfl⟩
theorem raddress_10 (x y o p : Int) (hx : -9223372036854775808 ≤ x ∧ x ≤ 9223372036854775807) (hy : -9223372036854775808 ≤ y ∧ y ≤ 9223372036854775807) (ho : -9223372036854775808 ≤ o ∧ o ≤ 9223372036854775807) (hp : -9223372036854775808 ≤ p ∧ p ≤ 9223372036854775807) (w : World) :
    Calls Try.prog 12 #[.int .i64 10, .int .i64 x, .int .i64 y, .int .i64 o, .int .i64 p] w fun e w' => e = .returned (.tuple #[.int .i64 ((o + x) % 65536), .bool true]) ∧ w = w' := by
  have AD := Lib.hid (fun w => radd_any o x ho hx w)
  have WO := AD
  have ZE := AD
  clear hx hy ho hp
  go_enter Try.func12, Try.ntmps12
  go_wp2_with (first | (go_at_call 21; refine (AD.out _).mono ?_; rintro e w' ⟨rfl, rfl⟩) | (go_at_call 20; refine (ZE.out _).mono ?_; rintro e w' ⟨rfl, rfl⟩) | (go_at_call 22; refine (WO.out _).mono ?_; rintro e w' ⟨rfl, rfl⟩))
  go_ret2
  exact ⟨by first | rfl | simp, rfl⟩
theorem raddress_20 (x y o p : Int) (hx : -9223372036854775808 ≤ x ∧ x ≤ 9223372036854775807) (hy : -9223372036854775808 ≤ y ∧ y ≤ 9223372036854775807) (ho : -9223372036854775808 ≤ o ∧ o ≤ 9223372036854775807) (hp : -9223372036854775808 ≤ p ∧ p ≤ 9223372036854775807) (w : World) :
    Calls Try.prog 12 #[.int .i64 20, .int .i64 x, .int .i64 y, .int .i64 o, .int .i64 p] w fun e w' => e = .returned (.tuple #[.int .i64 ((o + x) % 65536), .bool true]) ∧ w = w' := by
  have AD := Lib.hid (fun w => radd_any o x ho hx w)
  have WO := AD
  have ZE := AD
  clear hx hy ho hp
  go_enter Try.func12, Try.ntmps12
  go_wp2_with (first | (go_at_call 21; refine (AD.out _).mono ?_; rintro e w' ⟨rfl, rfl⟩) | (go_at_call 20; refine (ZE.out _).mono ?_; rintro e w' ⟨rfl, rfl⟩) | (go_at_call 22; refine (WO.out _).mono ?_; rintro e w' ⟨rfl, rfl⟩))
  go_ret2
  exact ⟨by first | rfl | simp, rfl⟩
theorem raddress_11 (x y o p : Int) (hx : -9223372036854775808 ≤ x ∧ x ≤ 9223372036854775807) (hy : -9223372036854775808 ≤ y ∧ y ≤ 9223372036854775807) (ho : -9223372036854775808 ≤ o ∧ o ≤ 9223372036854775807) (hp : -9223372036854775808 ≤ p ∧ p ≤ 9223372036854775807) (w : World) :
    Calls Try.prog 12 #[.int .i64 11, .int .i64 x, .int .i64 y, .int .i64 o, .int .i64 p] w fun e w' => e = .returned (.tuple #[.int .i64 ((o + y) % 65536), .bool true]) ∧ w = w' := by
  have AD := Lib.hid (fun w => radd_any o y ho hy w)
  have WO := AD
  have ZE := AD
  clear hx hy ho hp
  go_enter Try.func12, Try.ntmps12
  go_wp2_with (first | (go_at_call 21; refine (AD.out _).mono ?_; rintro e w' ⟨rfl, rfl⟩) | (go_at_call 20; refine (ZE.out _).mono ?_; rintro e w' ⟨rfl, rfl⟩) | (go_at_call 22; refine (WO.out _).mono ?_; rintro e w' ⟨rfl, rfl⟩))
  go_ret2
  exact ⟨by first | rfl | simp, rfl⟩
theorem raddress_6 (x y o p : Int) (hx : -9223372036854775808 ≤ x ∧ x ≤ 9223372036854775807) (hy : -9223372036854775808 ≤ y ∧ y ≤ 9223372036854775807) (ho : -9223372036854775808 ≤ o ∧ o ≤ 9223372036854775807) (hp : -9223372036854775808 ≤ p ∧ p ≤ 9223372036854775807) (w : World) :
    Calls Try.prog 12 #[.int .i64 6, .int .i64 x, .int .i64 y, .int .i64 o, .int .i64 p] w fun e w' => e = .returned (.tuple #[.int .i64 (p % 65536), .bool true]) ∧ w = w' := by
  have WO := Lib.hid (fun w => rword_any p w hp)
  have AD := WO
  have ZE := WO
  clear hx hy ho hp
  go_enter Try.func12, Try.ntmps12
  go_wp2_with (first | (go_at_call 21; refine (AD.out _).mono ?_; rintro e w' ⟨rfl, rfl⟩) | (go_at_call 20; refine (ZE.out _).mono ?_; rintro e w' ⟨rfl, rfl⟩) | (go_at_call 22; refine (WO.out _).mono ?_; rintro e w' ⟨rfl, rfl⟩))
  go_ret2
  exact ⟨by first | rfl | simp, rfl⟩
theorem raddress_8 (x y o p : Int) (hx : -9223372036854775808 ≤ x ∧ x ≤ 9223372036854775807) (hy : -9223372036854775808 ≤ y ∧ y ≤ 9223372036854775807) (ho : -9223372036854775808 ≤ o ∧ o ≤ 9223372036854775807) (hp : -9223372036854775808 ≤ p ∧ p ≤ 9223372036854775807) (w : World) :
    Calls Try.prog 12 #[.int .i64 8, .int .i64 x, .int .i64 y, .int .i64 o, .int .i64 p] w fun e w' => e = .returned (.tuple #[.int .i64 (p % 65536), .bool true]) ∧ w = w' := by
  have WO := Lib.hid (fun w => rword_any p w hp)
  have AD := WO
  have ZE := WO
  clear hx hy ho hp
  go_enter Try.func12, Try.ntmps12
  go_wp2_with (first | (go_at_call 21; refine (AD.out _).mono ?_; rintro e w' ⟨rfl, rfl⟩) | (go_at_call 20; refine (ZE.out _).mono ?_; rintro e w' ⟨rfl, rfl⟩) | (go_at_call 22; refine (WO.out _).mono ?_; rintro e w' ⟨rfl, rfl⟩))
  go_ret2
  exact ⟨by first | rfl | simp, rfl⟩
theorem raddress_12 (x y o p : Int) (hx : -9223372036854775808 ≤ x ∧ x ≤ 9223372036854775807) (hy : -9223372036854775808 ≤ y ∧ y ≤ 9223372036854775807) (ho : -9223372036854775808 ≤ o ∧ o ≤ 9223372036854775807) (hp : -9223372036854775808 ≤ p ∧ p ≤ 9223372036854775807) (w : World) :
    Calls Try.prog 12 #[.int .i64 12, .int .i64 x, .int .i64 y, .int .i64 o, .int .i64 p] w fun e w' => e = .returned (.tuple #[.int .i64 (p % 65536), .bool true]) ∧ w = w' := by
  have WO := Lib.hid (fun w => rword_any p w hp)
  have AD := WO
  have ZE := WO
  clear hx hy ho hp
  go_enter Try.func12, Try.ntmps12
  go_wp2_with (first | (go_at_call 21; refine (AD.out _).mono ?_; rintro e w' ⟨rfl, rfl⟩) | (go_at_call 20; refine (ZE.out _).mono ?_; rintro e w' ⟨rfl, rfl⟩) | (go_at_call 22; refine (WO.out _).mono ?_; rintro e w' ⟨rfl, rfl⟩))
  go_ret2
  exact ⟨by first | rfl | simp, rfl⟩
theorem raddress_13 (x y o p : Int) (hx : -9223372036854775808 ≤ x ∧ x ≤ 9223372036854775807) (hy : -9223372036854775808 ≤ y ∧ y ≤ 9223372036854775807) (ho : -9223372036854775808 ≤ o ∧ o ≤ 9223372036854775807) (hp : -9223372036854775808 ≤ p ∧ p ≤ 9223372036854775807) (w : World) :
    Calls Try.prog 12 #[.int .i64 13, .int .i64 x, .int .i64 y, .int .i64 o, .int .i64 p] w fun e w' => e = .returned (.tuple #[.int .i64 (p % 65536), .bool true]) ∧ w = w' := by
  have WO := Lib.hid (fun w => rword_any p w hp)
  have AD := WO
  have ZE := WO
  clear hx hy ho hp
  go_enter Try.func12, Try.ntmps12
  go_wp2_with (first | (go_at_call 21; refine (AD.out _).mono ?_; rintro e w' ⟨rfl, rfl⟩) | (go_at_call 20; refine (ZE.out _).mono ?_; rintro e w' ⟨rfl, rfl⟩) | (go_at_call 22; refine (WO.out _).mono ?_; rintro e w' ⟨rfl, rfl⟩))
  go_ret2
  exact ⟨by first | rfl | simp, rfl⟩
theorem raddress_7 (x y o p : Int) (hx : -9223372036854775808 ≤ x ∧ x ≤ 9223372036854775807) (hy : -9223372036854775808 ≤ y ∧ y ≤ 9223372036854775807) (ho : -9223372036854775808 ≤ o ∧ o ≤ 9223372036854775807) (hp : -9223372036854775808 ≤ p ∧ p ≤ 9223372036854775807) (w : World) :
    Calls Try.prog 12 #[.int .i64 7, .int .i64 x, .int .i64 y, .int .i64 o, .int .i64 p] w fun e w' => e = .returned (.tuple #[.int .i64 ((p + y) % 65536), .bool true]) ∧ w = w' := by
  have AD := Lib.hid (fun w => radd_any p y hp hy w)
  have WO := AD
  have ZE := AD
  clear hx hy ho hp
  go_enter Try.func12, Try.ntmps12
  go_wp2_with (first | (go_at_call 21; refine (AD.out _).mono ?_; rintro e w' ⟨rfl, rfl⟩) | (go_at_call 20; refine (ZE.out _).mono ?_; rintro e w' ⟨rfl, rfl⟩) | (go_at_call 22; refine (WO.out _).mono ?_; rintro e w' ⟨rfl, rfl⟩))
  go_ret2
  exact ⟨by first | rfl | simp, rfl⟩
theorem raddress_none (m x y o p : Int) (w : World) (h : vOk m = false) :
    Calls Try.prog 12 #[.int .i64 m, .int .i64 x, .int .i64 y, .int .i64 o, .int .i64 p] w fun e w' => e = .returned (.tuple #[.int .i64 0, .bool false]) ∧ w = w' := by
  simp only [vOk, decide_eq_false_iff_not] at h
  have n3 : (m == 3) = false := beq_eq_false_iff_ne.2 (by omega)
  have n15 : (m == 15) = false := beq_eq_false_iff_ne.2 (by omega)
  have n17 : (m == 17) = false := beq_eq_false_iff_ne.2 (by omega)
  have n4 : (m == 4) = false := beq_eq_false_iff_ne.2 (by omega)
  have n18 : (m == 18) = false := beq_eq_false_iff_ne.2 (by omega)
  have n5 : (m == 5) = false := beq_eq_false_iff_ne.2 (by omega)
  have n9 : (m == 9) = false := beq_eq_false_iff_ne.2 (by omega)
  have n19 : (m == 19) = false := beq_eq_false_iff_ne.2 (by omega)
  have n10 : (m == 10) = false := beq_eq_false_iff_ne.2 (by omega)
  have n20 : (m == 20) = false := beq_eq_false_iff_ne.2 (by omega)
  have n11 : (m == 11) = false := beq_eq_false_iff_ne.2 (by omega)
  have n6 : (m == 6) = false := beq_eq_false_iff_ne.2 (by omega)
  have n8 : (m == 8) = false := beq_eq_false_iff_ne.2 (by omega)
  have n12 : (m == 12) = false := beq_eq_false_iff_ne.2 (by omega)
  have n13 : (m == 13) = false := beq_eq_false_iff_ne.2 (by omega)
  have n7 : (m == 7) = false := beq_eq_false_iff_ne.2 (by omega)
  clear h
  go_enter Try.func12, Try.ntmps12
  go_wp2
  go_ret2
  exact ⟨rfl, rfl⟩
theorem raddress_any (m x y o p : Int) (hx : -9223372036854775808 ≤ x ∧ x ≤ 9223372036854775807) (hy : -9223372036854775808 ≤ y ∧ y ≤ 9223372036854775807) (ho : -9223372036854775808 ≤ o ∧ o ≤ 9223372036854775807) (hp : -9223372036854775808 ≤ p ∧ p ≤ 9223372036854775807) (w : World) :
    Calls Try.prog 12 #[.int .i64 m, .int .i64 x, .int .i64 y, .int .i64 o, .int .i64 p] w fun e w' => e = .returned (.tuple #[.int .i64 (vA m x y o p), .bool (vOk m)]) ∧ w = w' := by
  cases h : vOk m
  · have e : vA m x y o p = 0 := by
      simp only [vOk, decide_eq_false_iff_not] at h
      unfold vA
      rw [if_neg (by omega), if_neg (by omega), if_neg (by omega), if_neg (by omega), if_neg (by omega), if_neg (by omega), if_neg (by omega), if_neg (by omega)]
    rw [e]
    exact raddress_none m x y o p w h
  · simp only [vOk, decide_eq_true_eq] at h
    have : m = 3 ∨ m = 15 ∨ m = 17 ∨ m = 4 ∨ m = 18 ∨ m = 5 ∨ m = 9 ∨ m = 19 ∨ m = 10 ∨ m = 20 ∨ m = 11 ∨ m = 6 ∨ m = 8 ∨ m = 12 ∨ m = 13 ∨ m = 7 := by omega
    rcases this with rfl | rfl | rfl | rfl | rfl | rfl | rfl | rfl | rfl | rfl | rfl | rfl | rfl | rfl | rfl | rfl
    · exact raddress_3 x y o p hx hy ho hp w
    · exact raddress_15 x y o p hx hy ho hp w
    · exact raddress_17 x y o p hx hy ho hp w
    · exact raddress_4 x y o p hx hy ho hp w
    · exact raddress_18 x y o p hx hy ho hp w
    · exact raddress_5 x y o p hx hy ho hp w
    · exact raddress_9 x y o p hx hy ho hp w
    · exact raddress_19 x y o p hx hy ho hp w
    · exact raddress_10 x y o p hx hy ho hp w
    · exact raddress_20 x y o p hx hy ho hp w
    · exact raddress_11 x y o p hx hy ho hp w
    · exact raddress_6 x y o p hx hy ho hp w
    · exact raddress_8 x y o p hx hy ho hp w
    · exact raddress_12 x y o p hx hy ho hp w
    · exact raddress_13 x y o p hx hy ho hp w
    · exact raddress_7 x y o p hx hy ho hp w
theorem rpointer_6 (x o : Int) (hx : -9223372036854775808 ≤ x ∧ x ≤ 9223372036854775807) (ho : -9223372036854775808 ≤ o ∧ o ≤ 9223372036854775807) (w : World) : Calls Try.prog 11 #[.int .i64 6, .int .i64 x, .int .i64 o] w fun e w' => e = .returned (.tuple #[.int .i64 (8192 + (o + x) % 256), .bool true, .bool true]) ∧ w = w' := by
  have AD := Lib.hid (fun w => radd_any o x ho hx w)
  have ZE := Lib.hid (fun w => rzero_any ((o + x) % 65536) (by omega) w)
  have WO := AD
  clear hx ho
  go_enter Try.func11, Try.ntmps11
  go_wp2_with (first | (go_at_call 21; refine (AD.out _).mono ?_; rintro e w' ⟨rfl, rfl⟩) | (go_at_call 20; refine (ZE.out _).mono ?_; rintro e w' ⟨rfl, rfl⟩) | (go_at_call 22; refine (WO.out _).mono ?_; rintro e w' ⟨rfl, rfl⟩))
  go_ret3
  exact ⟨by first | rfl | simp, rfl⟩
theorem rpointer_7 (x o : Int) (hx : -9223372036854775808 ≤ x ∧ x ≤ 9223372036854775807) (ho : -9223372036854775808 ≤ o ∧ o ≤ 9223372036854775807) (w : World) : Calls Try.prog 11 #[.int .i64 7, .int .i64 x, .int .i64 o] w fun e w' => e = .returned (.tuple #[.int .i64 (8192 + o % 256), .bool true, .bool true]) ∧ w = w' := by
  have ZE := Lib.hid (fun w => rzero_any o ho w)
  have AD := ZE
  have WO := ZE
  clear hx ho
  go_enter Try.func11, Try.ntmps11
  go_wp2_with (first | (go_at_call 21; refine (AD.out _).mono ?_; rintro e w' ⟨rfl, rfl⟩) | (go_at_call 20; refine (ZE.out _).mono ?_; rintro e w' ⟨rfl, rfl⟩) | (go_at_call 22; refine (WO.out _).mono ?_; rintro e w' ⟨rfl, rfl⟩))
  go_ret3
  exact ⟨by first | rfl | simp, rfl⟩
theorem rpointer_8 (x o : Int) (hx : -9223372036854775808 ≤ x ∧ x ≤ 9223372036854775807) (ho : -9223372036854775808 ≤ o ∧ o ≤ 9223372036854775807) (w : World) : Calls Try.prog 11 #[.int .i64 8, .int .i64 x, .int .i64 o] w fun e w' => e = .returned (.tuple #[.int .i64 (8192 + o % 256), .bool true, .bool true]) ∧ w = w' := by
  have ZE := Lib.hid (fun w => rzero_any o ho w)
  have AD := ZE
  have WO := ZE
  clear hx ho
  go_enter Try.func11, Try.ntmps11
  go_wp2_with (first | (go_at_call 21; refine (AD.out _).mono ?_; rintro e w' ⟨rfl, rfl⟩) | (go_at_call 20; refine (ZE.out _).mono ?_; rintro e w' ⟨rfl, rfl⟩) | (go_at_call 22; refine (WO.out _).mono ?_; rintro e w' ⟨rfl, rfl⟩))
  go_ret3
  exact ⟨by first | rfl | simp, rfl⟩
theorem rpointer_12 (x o : Int) (hx : -9223372036854775808 ≤ x ∧ x ≤ 9223372036854775807) (ho : -9223372036854775808 ≤ o ∧ o ≤ 9223372036854775807) (w : World) : Calls Try.prog 11 #[.int .i64 12, .int .i64 x, .int .i64 o] w fun e w' => e = .returned (.tuple #[.int .i64 (o % 65536), .bool false, .bool true]) ∧ w = w' := by
  have WO := Lib.hid (fun w => rword_any o w ho)
  have AD := WO
  have ZE := WO
  clear hx ho
  go_enter Try.func11, Try.ntmps11
  go_wp2_with (first | (go_at_call 21; refine (AD.out _).mono ?_; rintro e w' ⟨rfl, rfl⟩) | (go_at_call 20; refine (ZE.out _).mono ?_; rintro e w' ⟨rfl, rfl⟩) | (go_at_call 22; refine (WO.out _).mono ?_; rintro e w' ⟨rfl, rfl⟩))
  go_ret3
  exact ⟨by first | rfl | simp, rfl⟩
theorem rpointer_13 (x o : Int) (hx : -9223372036854775808 ≤ x ∧ x ≤ 9223372036854775807) (ho : -9223372036854775808 ≤ o ∧ o ≤ 9223372036854775807) (w : World) : Calls Try.prog 11 #[.int .i64 13, .int .i64 x, .int .i64 o] w fun e w' => e = .returned (.tuple #[.int .i64 ((o + x) % 65536), .bool false, .bool true]) ∧ w = w' := by
  have AD := Lib.hid (fun w => radd_any o x ho hx w)
  have WO := AD
  have ZE := AD
  clear hx ho
  go_enter Try.func11, Try.ntmps11
  go_wp2_with (first | (go_at_call 21; refine (AD.out _).mono ?_; rintro e w' ⟨rfl, rfl⟩) | (go_at_call 20; refine (ZE.out _).mono ?_; rintro e w' ⟨rfl, rfl⟩) | (go_at_call 22; refine (WO.out _).mono ?_; rintro e w' ⟨rfl, rfl⟩))
  go_ret3
  exact ⟨by first | rfl | simp, rfl⟩
theorem rpointer_none (m x o : Int) (w : World) (h : vPh m = false) : Calls Try.prog 11 #[.int .i64 m, .int .i64 x, .int .i64 o] w fun e w' => e = .returned (.tuple #[.int .i64 0, .bool false, .bool false]) ∧ w = w' := by
  simp only [vPh, decide_eq_false_iff_not] at h
  have n6 : (m == 6) = false := beq_eq_false_iff_ne.2 (by omega)
  have n7 : (m == 7) = false := beq_eq_false_iff_ne.2 (by omega)
  have n8 : (m == 8) = false := beq_eq_false_iff_ne.2 (by omega)
  have n12 : (m == 12) = false := beq_eq_false_iff_ne.2 (by omega)
  have n13 : (m == 13) = false := beq_eq_false_iff_ne.2 (by omega)
  clear h
  go_enter Try.func11, Try.ntmps11
  go_wp2
  go_ret3
  exact ⟨rfl, rfl⟩
theorem rpointer_any (m x o : Int) (hx : -9223372036854775808 ≤ x ∧ x ≤ 9223372036854775807) (ho : -9223372036854775808 ≤ o ∧ o ≤ 9223372036854775807) (w : World) : Calls Try.prog 11 #[.int .i64 m, .int .i64 x, .int .i64 o] w fun e w' => e = .returned (.tuple #[.int .i64 (vP m x o), .bool (vPw m), .bool (vPh m)]) ∧ w = w' := by
  cases h : vPh m
  · have e : vP m x o = 0 := by
      simp only [vPh, decide_eq_false_iff_not] at h
      unfold vP
      rw [if_neg (by omega), if_neg (by omega), if_neg (by omega), if_neg (by omega)]
    have e2 : vPw m = false := by
      simp only [vPh, decide_eq_false_iff_not] at h
      unfold vPw
      rw [decide_eq_false_iff_not]; omega
    rw [e, e2]
    exact rpointer_none m x o w h
  · simp only [vPh, decide_eq_true_eq] at h
    rcases h with rfl | rfl | rfl | rfl | rfl
    · exact rpointer_6 x o hx ho w
    · exact rpointer_7 x o hx ho w
    · exact rpointer_8 x o hx ho w
    · exact rpointer_12 x o hx ho w
    · exact rpointer_13 x o hx ho w
theorem rtarget_any (pc f : Int) (hc : -9223372036854775808 ≤ pc ∧ pc ≤ 9223372036854775807) (hf : -9223372036854775808 ≤ f ∧ f ≤ 9223372036854775807) (w : World) : Calls Try.prog 13 #[.int .i64 pc, .int .i64 f] w fun e w' => e = .returned (.int .i64 (vT pc f)) ∧ w = w' := by
  have SG := Lib.hid (fun w => rsigned_any f w hf)
  have AD := Lib.hid (fun w => radd_any pc ((f + 128) % 256 - 128) hc (by omega) w)
  clear hc hf
  go_enter Try.func13, Try.ntmps13
  go_wp2_with fail
  refine (SG.out _).mono ?_; rintro e w' ⟨rfl, rfl⟩
  go_wp2_with fail
  refine (AD.out _).mono ?_; rintro e w' ⟨rfl, rfl⟩
  go_wp2
  go_ret
  exact ⟨rfl, rfl⟩
theorem rafter_any (a : Int) (ha : -9223372036854775808 ≤ a ∧ a ≤ 9223372036854775807) (wr : Bool) (w : World) : Calls Try.prog 14 #[.int .i64 a, .bool wr] w fun e w' => e = .returned (.int .i64 (vAf a wr)) ∧ w = w' := by
  have AD := Lib.hid (fun w => radd_any a 1 ha (by omega) w)
  have ZE := Lib.hid (fun w => rzero_any ((a + 1) % 65536) (by omega) w)
  have E := Lib.hid (show 8192 + (a + 1) % 65536 % 256 = vAf a true by unfold vAf; rw [if_pos rfl]; omega)
  clear ha
  cases wr
  · go_enter Try.func14, Try.ntmps14
    go_wp2_with (go_at_call 21; refine (AD.out _).mono ?_; rintro e w' ⟨rfl, rfl⟩)
    go_ret
    exact ⟨rfl, rfl⟩
  · go_enter Try.func14, Try.ntmps14
    go_wp2_with (first | (go_at_call 21; refine (AD.out _).mono ?_; rintro e w' ⟨rfl, rfl⟩) | (go_at_call 20; refine (ZE.out _).mono ?_; rintro e w' ⟨rfl, rfl⟩))
    go_ret
    exact ⟨ret_int (by first | exact E.out | (rw [← E.out]; simp)), rfl⟩
end Go.Proofs.Ytmbfcbjnidgieaa
