/- Contracts of card.check$1 and card.check. -/
import Derived.Test.YteepfbcialekeaaGreatDoorF
namespace Go.Proofs.YteepfbcialekeaaGreatDoor
set_option linter.unusedSimpArgs false
set_option linter.unusedVariables false
open Go.RowKit
theorem refuse_any (n : Int) (w : World) : Calls Tryz.prog 39 #[.int .i64 n] w fun e w' => e = .returned (.iface 75 (.agg #[.int .i64 n])) ∧ w = w' := by
  go_enter Tryz.func39, Tryz.ntmps39
  go_wp2
  go_ret
  exact ⟨rfl, rfl⟩
theorem tmod_nat (m : Nat) : (m : Int).tmod 8192 = (m : Int) % 8192 := Int.tmod_eq_emod_of_nonneg (by omega)
theorem tdiv_nat (m : Nat) : (m : Int).tdiv 8192 = (m : Int) / 8192 := Int.tdiv_eq_ediv_of_nonneg (by omega)
theorem plain_pages (p : Int) (h : p ≤ 16) (k : Int) (hk : vClass p = some k) : k = 0 ∧ 1 ≤ p := by
  rcases class_cases p k hk with ⟨rfl, a, b⟩ | ⟨rfl, a, b, c⟩ | ⟨rfl, rfl⟩ <;> omega
/-- What check says of a card of so many bytes. -/
def Checked (m : Nat) (e : Ending) : Prop :=
  (∃ why : Int, (why = 10 ∨ why = 11 ∨ why = 12 ∨ why = 13) ∧ e = .returned (.iface 75 (.agg #[.int .i64 why]))) ∨ (e = .returned .nilIface ∧ (m : Int) % 8192 = 0 ∧ vClass ((m : Int) / 8192) = some 0)
theorem check_any (p : Option Addr) (m c : Nat) (hm : m ≤ 131072) (w : World) : Calls Tryz.prog 14 #[.slice p m c] w fun e w' => Checked m e ∧ Up w w' := by
  have ht := tmod_nat m
  have hd := tdiv_nat m
  have hp : (m : Int) / 8192 ≤ 16 := by omega
  have HK := Lib.hid (plain_pages _ hp)
  have d0 : decide (320 < (m : Int) / 8192) = false := decide_eq_false (by omega)
  have HCL := Lib.hid (fun w => class_any ((m : Int) / 8192) w)
  cases hc : vClass ((m : Int) / 8192) with
  | none =>
    rw [hc] at HCL
    have hcases : ((m : Int) == 0) = true ∨ (((m : Int) == 0) = false ∧ ((m : Int) % 8192 != 0) = true) ∨ (((m : Int) == 0) = false ∧ ((m : Int) % 8192 != 0) = false) := by
      rcases Bool.eq_false_or_eq_true ((m : Int) == 0) with h | h <;> rcases Bool.eq_false_or_eq_true ((m : Int) % 8192 != 0) with k | k <;> simp [h, k]
    clear hc hp
    rcases hcases with h0 | ⟨h0, h1⟩ | ⟨h0, h1⟩
    · go_enter Tryz.func14, Tryz.ntmps14
      go_wp2_with fail
      refine (HCL.out _).mono ?_; rintro e w1 ⟨rfl, hU1⟩
      go_wp2_with (go_at_call 39; refine (refuse_any _ _).mono ?_; rintro e w' ⟨rfl, rfl⟩)
      go_ret
      exact ⟨.inl ⟨10, by omega, rfl⟩, hU1⟩
    · go_enter Tryz.func14, Tryz.ntmps14
      go_wp2_with fail
      refine (HCL.out _).mono ?_; rintro e w1 ⟨rfl, hU1⟩
      go_wp2_with (go_at_call 39; refine (refuse_any _ _).mono ?_; rintro e w' ⟨rfl, rfl⟩)
      go_ret
      exact ⟨.inl ⟨11, by omega, rfl⟩, hU1⟩
    · go_enter Tryz.func14, Tryz.ntmps14
      go_wp2_with fail
      refine (HCL.out _).mono ?_; rintro e w1 ⟨rfl, hU1⟩
      go_wp2_with (go_at_call 39; refine (refuse_any _ _).mono ?_; rintro e w' ⟨rfl, rfl⟩)
      go_ret
      exact ⟨.inl ⟨13, by omega, rfl⟩, hU1⟩
  | some k =>
    obtain ⟨rfl, hp1⟩ := HK.out k hc
    have HC := Lib.hid hc
    rw [hc] at HCL
    have h0 : ((m : Int) == 0) = false := by rw [beq_eq_false_iff_ne]; omega
    have hcases : ((m : Int) % 8192 != 0) = true ∨ ((m : Int) % 8192 != 0) = false := by
      rcases Bool.eq_false_or_eq_true ((m : Int) % 8192 != 0) with k | k <;> simp [k]
    clear hc hp hp1
    rcases hcases with h1 | h1
    · go_enter Tryz.func14, Tryz.ntmps14
      go_wp2_with fail
      refine (HCL.out _).mono ?_; rintro e w1 ⟨rfl, hU1⟩
      go_wp2_with (go_at_call 39; refine (refuse_any _ _).mono ?_; rintro e w' ⟨rfl, rfl⟩)
      go_ret
      exact ⟨.inl ⟨11, by omega, rfl⟩, hU1⟩
    · go_enter Tryz.func14, Tryz.ntmps14
      go_wp2_with fail
      refine (HCL.out _).mono ?_; rintro e w1 ⟨rfl, hU1⟩
      go_wp2_with fail
      go_ret
      exact ⟨.inr ⟨rfl, by simpa using h1, HC.out⟩, hU1⟩
end Go.Proofs.YteepfbcialekeaaGreatDoor
