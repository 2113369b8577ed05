/- Contract of card.stripped. -/
import Derived.Test.YteepfbcialekeaaGreatDoorG
namespace Go.Proofs.YteepfbcialekeaaGreatDoor
set_option linter.unusedSimpArgs false
set_option linter.unusedVariables false
open Go.RowKit
def vHead (n : Nat) : Nat := if n % 8192 = 512 then 512 else 0
theorem vHead_le (n : Nat) : vHead n ≤ n := by unfold vHead; split <;> omega
theorem stripped_any (g n : Nat) (w : World) : Calls Tryz.prog 13 #[.slice (some ⟨g, 0, none⟩) n n] w fun e w' => (∃ p, (n - vHead n = 0 ∨ p = vHead n) ∧ e = .returned (.slice (some ⟨g, p, none⟩) (n - vHead n) (n - vHead n))) ∧ w = w' := by
  have ht := tmod_nat n
  by_cases h5 : n = 512
  · subst h5
    have hv : vHead 512 = 512 := rfl
    rw [hv]
    clear hv ht
    go_enter Tryz.func13, Tryz.ntmps13
    go_wp2_with fail
    go_ret
    exact ⟨⟨0, by simp, rfl⟩, rfl⟩
  by_cases h : n % 8192 = 512
  · have hv : vHead n = 512 := by unfold vHead; rw [if_pos h]
    have h1 : ((n : Int) % 8192 == 512) = true := by rw [beq_iff_eq]; omega
    have h2 : 512 ≤ n := by omega
    have h3 : n - 512 ≠ 0 := by omega
    rw [hv]
    clear hv h
    go_enter Tryz.func13, Tryz.ntmps13
    go_wp2_with fail
    go_ret
    exact ⟨⟨512, .inr rfl, rfl⟩, rfl⟩
  · have hv : vHead n = 0 := by unfold vHead; rw [if_neg h]
    have h1 : ((n : Int) % 8192 == 512) = false := by rw [beq_eq_false_iff_ne]; omega
    rw [hv]
    clear hv h
    go_enter Tryz.func13, Tryz.ntmps13
    go_wp2_with fail
    go_ret
    exact ⟨⟨0, .inr rfl, rfl⟩, rfl⟩
end Go.Proofs.YteepfbcialekeaaGreatDoor
