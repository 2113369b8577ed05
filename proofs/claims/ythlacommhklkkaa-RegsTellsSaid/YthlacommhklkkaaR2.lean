/- Contracts of the functions of the package regs that tell something. -/
import Derived.Test.YthlacommhklkkaaR
import Derived.Lib.MinMax
import Derived.BigQuiet
import Derived.Deep.QuietTactic
namespace Go.Proofs.Ythlacommhklkkaa
open Go.RowKit
open RV
attribute [local go_sem] rv1_set0 rv1_set rv1_get0 rv1_get rv0_get idx20 BM.and3 BM.and31
theorem quiet_of {P : Program} {f : FuncId} {args : Array Value} {w : World} {n : Nat} {v : Value}
    (h : Calls P f args (w.drewN n) fun e w' => e = .returned v ∧ w.drewN n = w') : Calls P f args (w.drewN n) fun e w'' => e = .returned v ∧ ∃ m, w'' = w.drewN m :=
  h.mono fun _ _ ⟨he, hm⟩ => ⟨he, n, hm.symm⟩

theorem on_any (s : Int) (F : Nat → Int) (k : Int) (w : World) : Calls Try.prog 18 #[.agg (rv [s] 20 F), .int .i64 k] w fun e w' => e = .returned (.bool (BM.vBit (F 5) k == 1)) ∧ Up w w' := by
  have q : (rv [s] 20 F)[6]? = some (.int .i64 (F 5)) := rv1_get s 20 5 F (by omega)
  go_enter Try.func18, Try.ntmps18
  go_wp2_with (go_at_call 20; refine (bit_any _ _ _).mono ?_; rintro e w' ⟨rfl, rfl⟩)
  go_ret
  exact ⟨rfl, (Up.refl _).alloc _⟩
def vRas (x line : Int) : Bool := decide (64 ≤ x % 65536) && (line == x % 65536 - 64)
theorem raster_any (s : Int) (F : Nat → Int) (line : Int) (w : World) : Calls Try.prog 10 #[.agg (rv [s] 20 F), .int .i64 line] w fun e w' => e = .returned (.bool (vRas (F 6) line)) ∧ Up w w' := by
  have q : (rv [s] 20 F)[7]? = some (.int .i64 (F 6)) := rv1_get s 20 6 F (by omega)
  have h0 : 0 ≤ F 6 % 65536 := by omega
  have h1 : F 6 % 65536 ≤ 65535 := by omega
  by_cases h : 64 ≤ F 6 % 65536
  · have hd : decide (64 ≤ F 6 % 65536) = true := decide_eq_true h
    go_enter Try.func10, Try.ntmps10
    go_wp2_with (go_at_call 21; refine (word_any _ _).mono ?_; rintro e w' ⟨rfl, rfl⟩)
    go_ret
    exact ⟨ret_bool (by unfold vRas; rw [hd]; simp), (Up.refl _).alloc _⟩
  · have hd : decide (64 ≤ F 6 % 65536) = false := decide_eq_false h
    go_enter Try.func10, Try.ntmps10
    go_wp2_with (go_at_call 21; refine (word_any _ _).mono ?_; rintro e w' ⟨rfl, rfl⟩)
    go_ret
    exact ⟨ret_bool (by unfold vRas; rw [hd]; simp), (Up.refl _).alloc _⟩
def vFar (x : Int) : Int := if x / 2048 % 4 = 0 then 1 else if x / 2048 % 4 = 1 then 32 else if x / 2048 % 4 = 2 then 64 else 128
theorem far_any (s : Int) (F : Nat → Int) (w : World) : Calls Try.prog 9 #[.agg (rv [s] 20 F)] w fun e w' => e = .returned (.int .i64 (vFar (F 5))) ∧ Up w w' := by
  have q : (rv [s] 20 F)[6]? = some (.int .i64 (F 5)) := rv1_get s 20 5 F (by omega)
  have h : F 5 / 2048 % 4 = 0 ∨ F 5 / 2048 % 4 = 1 ∨ F 5 / 2048 % 4 = 2 ∨ F 5 / 2048 % 4 = 3 := by omega
  rcases h with h | h | h | h
  · have hv : vFar (F 5) = 1 := by unfold vFar; rw [h]; rfl
    rw [hv]
    go_enter Try.func9, Try.ntmps9
    go_wp2_with fail
    go_ret
    exact ⟨rfl, (Up.refl _).alloc _⟩
  · have hv : vFar (F 5) = 32 := by unfold vFar; rw [h]; rfl
    rw [hv]
    go_enter Try.func9, Try.ntmps9
    go_wp2_with fail
    go_ret
    exact ⟨rfl, (Up.refl _).alloc _⟩
  · have hv : vFar (F 5) = 64 := by unfold vFar; rw [h]; rfl
    rw [hv]
    go_enter Try.func9, Try.ntmps9
    go_wp2_with fail
    go_ret
    exact ⟨rfl, (Up.refl _).alloc _⟩
  · have hv : vFar (F 5) = 128 := by unfold vFar; rw [h]; rfl
    rw [hv]
    go_enter Try.func9, Try.ntmps9
    go_wp2_with fail
    go_ret
    exact ⟨rfl, (Up.refl _).alloc _⟩
def vMapW (x : Int) : Int := if x / 16 % 4 = 0 then 32 else if x / 16 % 4 = 1 then 64 else 128
def vMapH (x : Int) : Int := 32 + 32 * BM.vBit x 6
theorem map_any (s : Int) (F : Nat → Int) (w : World) : Calls Try.prog 8 #[.agg (rv [s] 20 F)] w fun e w' => e = .returned (.tuple #[.int .i64 (vMapW (F 9)), .int .i64 (vMapH (F 9))]) ∧ Up w w' := by
  have q : (rv [s] 20 F)[10]? = some (.int .i64 (F 9)) := rv1_get s 20 9 F (by omega)
  have h : F 9 / 16 % 4 = 0 ∨ F 9 / 16 % 4 = 1 ∨ F 9 / 16 % 4 = 2 ∨ F 9 / 16 % 4 = 3 := by omega
  have hb := (BM.vBit_rng (F 9) 6).2
  rcases h with h | h | h | h <;> rcases hb with hb | hb
  · have hv : vMapW (F 9) = 32 := by unfold vMapW; rw [h]; rfl
    have hv2 : vMapH (F 9) = 32 := by unfold vMapH; rw [hb]; rfl
    rw [hv, hv2]
    clear hv hv2
    have m0 : min (0 : Int) 2 = 0 := by decide
    go_enter Try.func8, Try.ntmps8
    go_wp2_with fail
    go_quiet ((go_at_call 20; exact quiet_of (bit_any _ _ _)))
    go_wp2_with fail
    go_ret2
    exact ⟨rfl, ((Up.refl _).alloc _).drewN _⟩
  · have hv : vMapW (F 9) = 32 := by unfold vMapW; rw [h]; rfl
    have hv2 : vMapH (F 9) = 64 := by unfold vMapH; rw [hb]; rfl
    rw [hv, hv2]
    clear hv hv2
    have m0 : min (0 : Int) 2 = 0 := by decide
    go_enter Try.func8, Try.ntmps8
    go_wp2_with fail
    go_quiet ((go_at_call 20; exact quiet_of (bit_any _ _ _)))
    go_wp2_with fail
    go_ret2
    exact ⟨rfl, ((Up.refl _).alloc _).drewN _⟩
  · have hv : vMapW (F 9) = 64 := by unfold vMapW; rw [h]; rfl
    have hv2 : vMapH (F 9) = 32 := by unfold vMapH; rw [hb]; rfl
    rw [hv, hv2]
    clear hv hv2
    have m0 : min (1 : Int) 2 = 1 := by decide
    go_enter Try.func8, Try.ntmps8
    go_wp2_with fail
    go_quiet ((go_at_call 20; exact quiet_of (bit_any _ _ _)))
    go_wp2_with fail
    go_ret2
    exact ⟨rfl, ((Up.refl _).alloc _).drewN _⟩
  · have hv : vMapW (F 9) = 64 := by unfold vMapW; rw [h]; rfl
    have hv2 : vMapH (F 9) = 64 := by unfold vMapH; rw [hb]; rfl
    rw [hv, hv2]
    clear hv hv2
    have m0 : min (1 : Int) 2 = 1 := by decide
    go_enter Try.func8, Try.ntmps8
    go_wp2_with fail
    go_quiet ((go_at_call 20; exact quiet_of (bit_any _ _ _)))
    go_wp2_with fail
    go_ret2
    exact ⟨rfl, ((Up.refl _).alloc _).drewN _⟩
  · have hv : vMapW (F 9) = 128 := by unfold vMapW; rw [h]; rfl
    have hv2 : vMapH (F 9) = 32 := by unfold vMapH; rw [hb]; rfl
    rw [hv, hv2]
    clear hv hv2
    have m0 : min (2 : Int) 2 = 2 := by decide
    go_enter Try.func8, Try.ntmps8
    go_wp2_with fail
    go_quiet ((go_at_call 20; exact quiet_of (bit_any _ _ _)))
    go_wp2_with fail
    go_ret2
    exact ⟨rfl, ((Up.refl _).alloc _).drewN _⟩
  · have hv : vMapW (F 9) = 128 := by unfold vMapW; rw [h]; rfl
    have hv2 : vMapH (F 9) = 64 := by unfold vMapH; rw [hb]; rfl
    rw [hv, hv2]
    clear hv hv2
    have m0 : min (2 : Int) 2 = 2 := by decide
    go_enter Try.func8, Try.ntmps8
    go_wp2_with fail
    go_quiet ((go_at_call 20; exact quiet_of (bit_any _ _ _)))
    go_wp2_with fail
    go_ret2
    exact ⟨rfl, ((Up.refl _).alloc _).drewN _⟩
  · have hv : vMapW (F 9) = 128 := by unfold vMapW; rw [h]; rfl
    have hv2 : vMapH (F 9) = 32 := by unfold vMapH; rw [hb]; rfl
    rw [hv, hv2]
    clear hv hv2
    have m0 : min (3 : Int) 2 = 2 := by decide
    go_enter Try.func8, Try.ntmps8
    go_wp2_with fail
    go_quiet ((go_at_call 20; exact quiet_of (bit_any _ _ _)))
    go_wp2_with fail
    go_ret2
    exact ⟨rfl, ((Up.refl _).alloc _).drewN _⟩
  · have hv : vMapW (F 9) = 128 := by unfold vMapW; rw [h]; rfl
    have hv2 : vMapH (F 9) = 64 := by unfold vMapH; rw [hb]; rfl
    rw [hv, hv2]
    clear hv hv2
    have m0 : min (3 : Int) 2 = 2 := by decide
    go_enter Try.func8, Try.ntmps8
    go_wp2_with fail
    go_quiet ((go_at_call 20; exact quiet_of (bit_any _ _ _)))
    go_wp2_with fail
    go_ret2
    exact ⟨rfl, ((Up.refl _).alloc _).drewN _⟩
end Go.Proofs.Ythlacommhklkkaa
