/- Contracts of the functions of the package mpr: what each returns. -/
import Derived.Test.YteepfbcialekeaaGreatDoorD
import Derived.LoopN
import Derived.Lib.Hide
namespace Go.Proofs.YteepfbcialekeaaGreatDoor
set_option linter.unusedSimpArgs false
set_option linter.unusedVariables false
open Go.RowKit
attribute [local go_sem] BM.and8191

theorem bytes_any (F : Nat → Int) (w : World) : Calls Tryz.prog 22 #[.agg #[.int .i64 (F 0), .int .i64 (F 1), .int .i64 (F 2), .int .i64 (F 3), .int .i64 (F 4), .int .i64 (F 5), .int .i64 (F 6), .int .i64 (F 7)]] w fun e w' => e = .returned (.agg #[.int .i64 (F 0 % 256), .int .i64 (F 1 % 256), .int .i64 (F 2 % 256), .int .i64 (F 3 % 256), .int .i64 (F 4 % 256), .int .i64 (F 5 % 256), .int .i64 (F 6 % 256), .int .i64 (F 7 % 256)]) ∧ Up w w' := by
  go_enter Tryz.func22, Tryz.ntmps22
  go_wp2_with fail
  refine wp_loop_rounds 9 ?_
  rw [rounds_succ]; go_wp2_with (go_at_call 30; refine (byte_any _ _).mono ?_; rintro e w' ⟨rfl, rfl⟩)
  rw [rounds_succ]; go_wp2_with (go_at_call 30; refine (byte_any _ _).mono ?_; rintro e w' ⟨rfl, rfl⟩)
  rw [rounds_succ]; go_wp2_with (go_at_call 30; refine (byte_any _ _).mono ?_; rintro e w' ⟨rfl, rfl⟩)
  rw [rounds_succ]; go_wp2_with (go_at_call 30; refine (byte_any _ _).mono ?_; rintro e w' ⟨rfl, rfl⟩)
  rw [rounds_succ]; go_wp2_with (go_at_call 30; refine (byte_any _ _).mono ?_; rintro e w' ⟨rfl, rfl⟩)
  rw [rounds_succ]; go_wp2_with (go_at_call 30; refine (byte_any _ _).mono ?_; rintro e w' ⟨rfl, rfl⟩)
  rw [rounds_succ]; go_wp2_with (go_at_call 30; refine (byte_any _ _).mono ?_; rintro e w' ⟨rfl, rfl⟩)
  rw [rounds_succ]; go_wp2_with (go_at_call 30; refine (byte_any _ _).mono ?_; rintro e w' ⟨rfl, rfl⟩)
  rw [rounds_succ]; go_wp2_with (go_at_call 30; refine (byte_any _ _).mono ?_; rintro e w' ⟨rfl, rfl⟩)
  refine bodyPost_ret (v := .agg #[.int .i64 (F 0 % 256), .int .i64 (F 1 % 256), .int .i64 (F 2 % 256), .int .i64 (F 3 % 256), .int .i64 (F 4 % 256), .int .i64 (F 5 % 256), .int .i64 (F 6 % 256), .int .i64 (F 7 % 256)]) ?_ rfl ⟨rfl, ?_⟩
  · simp [results, Tryz.results22, go_sem]
  · exact (by repeat (first | exact Up.refl _ | assumption | refine Up.drew ?_ | refine Up.alloc ?_ _ | refine Up.setCell ?_ (by simp) _ | refine Up.trans ?_ (by assumption)))

def vPhys (F : Nat → Int) (n : Int) : Int := F (n % 65536 / 8192).toNat % 256 * 8192 + n % 8192
theorem phys_or (x n : Int) : bits .or .i64 (x % 256 * 8192) (n % 8192) = x % 256 * 8192 + n % 8192 :=
  BM.or_join 13 _ _ (by omega) (by simp) (by omega) (by omega) (by simp; omega) (by omega)
theorem idx0 (x0 x1 x2 x3 x4 x5 x6 x7 : Value) (w : World) : (Instr.index 43 (.agg #[x0, x1, x2, x3, x4, x5, x6, x7]) (.int .i64 0)).run Tryz.prog w = .ok x0 w := by kernel_rfl
theorem idx1 (x0 x1 x2 x3 x4 x5 x6 x7 : Value) (w : World) : (Instr.index 43 (.agg #[x0, x1, x2, x3, x4, x5, x6, x7]) (.int .i64 1)).run Tryz.prog w = .ok x1 w := by kernel_rfl
theorem idx2 (x0 x1 x2 x3 x4 x5 x6 x7 : Value) (w : World) : (Instr.index 43 (.agg #[x0, x1, x2, x3, x4, x5, x6, x7]) (.int .i64 2)).run Tryz.prog w = .ok x2 w := by kernel_rfl
theorem idx3 (x0 x1 x2 x3 x4 x5 x6 x7 : Value) (w : World) : (Instr.index 43 (.agg #[x0, x1, x2, x3, x4, x5, x6, x7]) (.int .i64 3)).run Tryz.prog w = .ok x3 w := by kernel_rfl
theorem idx4 (x0 x1 x2 x3 x4 x5 x6 x7 : Value) (w : World) : (Instr.index 43 (.agg #[x0, x1, x2, x3, x4, x5, x6, x7]) (.int .i64 4)).run Tryz.prog w = .ok x4 w := by kernel_rfl
theorem idx5 (x0 x1 x2 x3 x4 x5 x6 x7 : Value) (w : World) : (Instr.index 43 (.agg #[x0, x1, x2, x3, x4, x5, x6, x7]) (.int .i64 5)).run Tryz.prog w = .ok x5 w := by kernel_rfl
theorem idx6 (x0 x1 x2 x3 x4 x5 x6 x7 : Value) (w : World) : (Instr.index 43 (.agg #[x0, x1, x2, x3, x4, x5, x6, x7]) (.int .i64 6)).run Tryz.prog w = .ok x6 w := by kernel_rfl
theorem idx7 (x0 x1 x2 x3 x4 x5 x6 x7 : Value) (w : World) : (Instr.index 43 (.agg #[x0, x1, x2, x3, x4, x5, x6, x7]) (.int .i64 7)).run Tryz.prog w = .ok x7 w := by kernel_rfl
attribute [local go_sem] idx0 idx1 idx2 idx3 idx4 idx5 idx6 idx7
theorem phys_any (F : Nat → Int) (n : Int) (w : World) : Calls Tryz.prog 7 #[.agg #[.int .i64 (F 0), .int .i64 (F 1), .int .i64 (F 2), .int .i64 (F 3), .int .i64 (F 4), .int .i64 (F 5), .int .i64 (F 6), .int .i64 (F 7)], .int .i64 n] w fun e w' => e = .returned (.int .i64 (vPhys F n)) ∧ Up w w' := by
  have HB := Lib.hid (fun w => bytes_any F w)
  have HO := phys_or
  have hq : n % 65536 / 8192 = 0 ∨ n % 65536 / 8192 = 1 ∨ n % 65536 / 8192 = 2 ∨ n % 65536 / 8192 = 3 ∨ n % 65536 / 8192 = 4 ∨ n % 65536 / 8192 = 5 ∨ n % 65536 / 8192 = 6 ∨ n % 65536 / 8192 = 7 := by omega
  have hm : n % 65536 % 8192 = n % 8192 := by omega
  rcases hq with hq | hq | hq | hq | hq | hq | hq | hq
  · have hv : vPhys F n = F 0 % 256 * 8192 + n % 8192 := by unfold vPhys; rw [hq]; rfl
    rw [hv]; clear hv
    have hn0 : 0 ≤ F 0 % 256 := by omega
    have hn1 : F 0 % 256 ≤ 255 := by omega
    go_enter Tryz.func7, Tryz.ntmps7
    go_wp2_with (go_at_call 21; refine (word_any _ _).mono ?_; rintro e w' ⟨rfl, rfl⟩)
    refine (HB.out _).mono ?_; rintro e w1 ⟨rfl, hU1⟩
    go_wp2_with fail
    go_ret
    exact ⟨rfl, (by repeat (first | exact Up.refl _ | assumption | refine Up.drew ?_ | refine Up.alloc ?_ _ | refine Up.setCell ?_ (by simp) _ | refine Up.trans ?_ (by assumption)))⟩
  · have hv : vPhys F n = F 1 % 256 * 8192 + n % 8192 := by unfold vPhys; rw [hq]; rfl
    rw [hv]; clear hv
    have hn0 : 0 ≤ F 1 % 256 := by omega
    have hn1 : F 1 % 256 ≤ 255 := by omega
    go_enter Tryz.func7, Tryz.ntmps7
    go_wp2_with (go_at_call 21; refine (word_any _ _).mono ?_; rintro e w' ⟨rfl, rfl⟩)
    refine (HB.out _).mono ?_; rintro e w1 ⟨rfl, hU1⟩
    go_wp2_with fail
    go_ret
    exact ⟨rfl, (by repeat (first | exact Up.refl _ | assumption | refine Up.drew ?_ | refine Up.alloc ?_ _ | refine Up.setCell ?_ (by simp) _ | refine Up.trans ?_ (by assumption)))⟩
  · have hv : vPhys F n = F 2 % 256 * 8192 + n % 8192 := by unfold vPhys; rw [hq]; rfl
    rw [hv]; clear hv
    have hn0 : 0 ≤ F 2 % 256 := by omega
    have hn1 : F 2 % 256 ≤ 255 := by omega
    go_enter Tryz.func7, Tryz.ntmps7
    go_wp2_with (go_at_call 21; refine (word_any _ _).mono ?_; rintro e w' ⟨rfl, rfl⟩)
    refine (HB.out _).mono ?_; rintro e w1 ⟨rfl, hU1⟩
    go_wp2_with fail
    go_ret
    exact ⟨rfl, (by repeat (first | exact Up.refl _ | assumption | refine Up.drew ?_ | refine Up.alloc ?_ _ | refine Up.setCell ?_ (by simp) _ | refine Up.trans ?_ (by assumption)))⟩
  · have hv : vPhys F n = F 3 % 256 * 8192 + n % 8192 := by unfold vPhys; rw [hq]; rfl
    rw [hv]; clear hv
    have hn0 : 0 ≤ F 3 % 256 := by omega
    have hn1 : F 3 % 256 ≤ 255 := by omega
    go_enter Tryz.func7, Tryz.ntmps7
    go_wp2_with (go_at_call 21; refine (word_any _ _).mono ?_; rintro e w' ⟨rfl, rfl⟩)
    refine (HB.out _).mono ?_; rintro e w1 ⟨rfl, hU1⟩
    go_wp2_with fail
    go_ret
    exact ⟨rfl, (by repeat (first | exact Up.refl _ | assumption | refine Up.drew ?_ | refine Up.alloc ?_ _ | refine Up.setCell ?_ (by simp) _ | refine Up.trans ?_ (by assumption)))⟩
  · have hv : vPhys F n = F 4 % 256 * 8192 + n % 8192 := by unfold vPhys; rw [hq]; rfl
    rw [hv]; clear hv
    have hn0 : 0 ≤ F 4 % 256 := by omega
    have hn1 : F 4 % 256 ≤ 255 := by omega
    go_enter Tryz.func7, Tryz.ntmps7
    go_wp2_with (go_at_call 21; refine (word_any _ _).mono ?_; rintro e w' ⟨rfl, rfl⟩)
    refine (HB.out _).mono ?_; rintro e w1 ⟨rfl, hU1⟩
    go_wp2_with fail
    go_ret
    exact ⟨rfl, (by repeat (first | exact Up.refl _ | assumption | refine Up.drew ?_ | refine Up.alloc ?_ _ | refine Up.setCell ?_ (by simp) _ | refine Up.trans ?_ (by assumption)))⟩
  · have hv : vPhys F n = F 5 % 256 * 8192 + n % 8192 := by unfold vPhys; rw [hq]; rfl
    rw [hv]; clear hv
    have hn0 : 0 ≤ F 5 % 256 := by omega
    have hn1 : F 5 % 256 ≤ 255 := by omega
    go_enter Tryz.func7, Tryz.ntmps7
    go_wp2_with (go_at_call 21; refine (word_any _ _).mono ?_; rintro e w' ⟨rfl, rfl⟩)
    refine (HB.out _).mono ?_; rintro e w1 ⟨rfl, hU1⟩
    go_wp2_with fail
    go_ret
    exact ⟨rfl, (by repeat (first | exact Up.refl _ | assumption | refine Up.drew ?_ | refine Up.alloc ?_ _ | refine Up.setCell ?_ (by simp) _ | refine Up.trans ?_ (by assumption)))⟩
  · have hv : vPhys F n = F 6 % 256 * 8192 + n % 8192 := by unfold vPhys; rw [hq]; rfl
    rw [hv]; clear hv
    have hn0 : 0 ≤ F 6 % 256 := by omega
    have hn1 : F 6 % 256 ≤ 255 := by omega
    go_enter Tryz.func7, Tryz.ntmps7
    go_wp2_with (go_at_call 21; refine (word_any _ _).mono ?_; rintro e w' ⟨rfl, rfl⟩)
    refine (HB.out _).mono ?_; rintro e w1 ⟨rfl, hU1⟩
    go_wp2_with fail
    go_ret
    exact ⟨rfl, (by repeat (first | exact Up.refl _ | assumption | refine Up.drew ?_ | refine Up.alloc ?_ _ | refine Up.setCell ?_ (by simp) _ | refine Up.trans ?_ (by assumption)))⟩
  · have hv : vPhys F n = F 7 % 256 * 8192 + n % 8192 := by unfold vPhys; rw [hq]; rfl
    rw [hv]; clear hv
    have hn0 : 0 ≤ F 7 % 256 := by omega
    have hn1 : F 7 % 256 ≤ 255 := by omega
    go_enter Tryz.func7, Tryz.ntmps7
    go_wp2_with (go_at_call 21; refine (word_any _ _).mono ?_; rintro e w' ⟨rfl, rfl⟩)
    refine (HB.out _).mono ?_; rintro e w1 ⟨rfl, hU1⟩
    go_wp2_with fail
    go_ret
    exact ⟨rfl, (by repeat (first | exact Up.refl _ | assumption | refine Up.drew ?_ | refine Up.alloc ?_ _ | refine Up.setCell ?_ (by simp) _ | refine Up.trans ?_ (by assumption)))⟩
end Go.Proofs.YteepfbcialekeaaGreatDoor
