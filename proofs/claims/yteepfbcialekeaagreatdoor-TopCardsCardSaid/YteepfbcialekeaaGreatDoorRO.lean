/- Opening arguments that are rows of whole numbers. -/
import Derived.Test.YteepfbcialekeaaGreatDoorOP
import Derived.Test.YteepfbcialekeaaGreatDoorRV
namespace Go.Proofs.YteepfbcialekeaaGreatDoor
open Go.RowKit
open RV
theorem open_ints : ∀ (n : Nat) (vs : List Value), OP.FitsAll (List.replicate n true) vs → ∃ zs : List Int, zs.length = n ∧ vs = zs.map (Value.int .i64) ∧ ∀ z ∈ zs, -9223372036854775808 ≤ z ∧ z ≤ 9223372036854775807
  | 0, vs, h => ⟨[], rfl, by rw [OP.none_left h]; rfl, by simp⟩
  | n + 1, vs, h => by
    rw [List.replicate_succ] at h
    obtain ⟨z, r, rfl, hz, hr⟩ := OP.cons_int h
    obtain ⟨zs, h1, rfl, h2⟩ := open_ints n r hr
    exact ⟨z :: zs, by simp [h1], rfl, by intro x hx; rcases List.mem_cons.1 hx with h | hx; (rw [h]; exact hz); exact h2 x hx⟩
theorem range_getD (zs : List Int) : (List.range zs.length).map (fun j => zs.getD j 0) = zs := by
  apply List.ext_getElem
  · simp
  · intro i h1 h2
    simp at h1
    simp [List.getD, h1]
theorem getD_rng {zs : List Int} (h : ∀ z ∈ zs, -9223372036854775808 ≤ z ∧ z ≤ 9223372036854775807) (i : Nat) : -9223372036854775808 ≤ zs.getD i 0 ∧ zs.getD i 0 ≤ 9223372036854775807 := by
  by_cases hi : i < zs.length
  · have : zs.getD i 0 = zs[i] := by simp [List.getD, hi]
    rw [this]; exact h _ (List.getElem_mem hi)
  · have : zs.getD i 0 = 0 := by simp [List.getD, Nat.le_of_not_lt hi]
    rw [this]; decide
theorem open_rv0 (n : Nat) (vs : List Value) (h : OP.FitsAll (List.replicate n true) vs) : ∃ F : Nat → Int, (⟨vs⟩ : Array Value) = rv [] n F ∧ ∀ i, -9223372036854775808 ≤ F i ∧ F i ≤ 9223372036854775807 := by
  obtain ⟨zs, h1, rfl, h2⟩ := open_ints n vs h
  subst h1
  exact ⟨fun j => zs.getD j 0, by simp only [rv, range_getD, List.nil_append], getD_rng h2⟩
theorem open_rv1 (n : Nat) (vs : List Value) (h : OP.FitsAll (List.replicate (n + 1) true) vs) : ∃ (s : Int) (F : Nat → Int), (⟨vs⟩ : Array Value) = rv [s] n F ∧ (-9223372036854775808 ≤ s ∧ s ≤ 9223372036854775807) ∧ ∀ i, -9223372036854775808 ≤ F i ∧ F i ≤ 9223372036854775807 := by
  rw [List.replicate_succ] at h
  obtain ⟨s, r, rfl, hs, hr⟩ := OP.cons_int h
  obtain ⟨zs, h1, rfl, h2⟩ := open_ints n r hr
  subst h1
  exact ⟨s, fun j => zs.getD j 0, by simp only [rv, range_getD]; simp, hs, getD_rng h2⟩
end Go.Proofs.YteepfbcialekeaaGreatDoor
