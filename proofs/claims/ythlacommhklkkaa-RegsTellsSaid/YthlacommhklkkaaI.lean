/- Contract of the reference's Valid. -/
import Derived.Test.YthlacommhklkkaaF
import Derived.Test.YthlacommhklkkaaV
import Derived.Deep.RegionHeld3
import Derived.Deep.QuietTactic
import Derived.BigQuiet
namespace Go.Proofs.Ythlacommhklkkaa
open Go.RowKit
open RV
attribute [local go_sem] rv1_get0
theorem bad_iff (F : Nat → Int) (n : Nat) (hn : n < 20) (hF : ∀ i, -9223372036854775808 ≤ F i ∧ F i ≤ 9223372036854775807) :
    (bits .andNot .i64 (F n) (MK n) != 0) = (decide (F n < 0) || decide (65535 < F n) || (onlyTo (F n) (MK n) 16 != F n)) := andNot_zero (F n) (MK n) (hF n) (mk_rng n hn)
set_option maxHeartbeats 4000000 in
theorem rvalid_any (s : Int) (F : Nat → Int) (hF : ∀ i, -9223372036854775808 ≤ F i ∧ F i ≤ 9223372036854775807) (w : World) : Calls Try.prog 14 #[.agg (rv [s] 20 F)] w fun e w' => e = .returned (.bool (vOk s F)) ∧ Up w w' := by
  have hs : decide (s < 0) = true ∨ (decide (s < 0) = false ∧ decide (31 < s) = true) ∨ (decide (s < 0) = false ∧ decide (31 < s) = false) := by
    cases decide (s < 0) <;> cases decide (31 < s) <;> simp
  have hvt : s < 0 ∨ 31 < s → vOk s F = false := fun h => by
    unfold vOk
    have : (decide (0 ≤ s) && decide (s ≤ 31)) = false := by
      rcases h with h | h
      · rw [decide_eq_false (by omega : ¬ 0 ≤ s)]; rfl
      · rw [decide_eq_false (by omega : ¬ s ≤ 31)]; simp
    rw [this]; simp
  rcases hs with h1 | ⟨h1, h2⟩ | ⟨h1, h2⟩
  · rw [hvt (.inl (of_decide_eq_true h1))]
    clear hvt
    go_enter Try.func14, Try.ntmps14
    go_wp2_with fail
    go_ret
    exact ⟨rfl, (Up.refl _).alloc _⟩
  · rw [hvt (.inr (of_decide_eq_true h2))]
    clear hvt
    go_enter Try.func14, Try.ntmps14
    go_wp2_with fail
    go_ret
    exact ⟨rfl, (Up.refl _).alloc _⟩
  · have hsv : ∀ F, vOk s F = okTo F 20 := fun F => by
      unfold vOk
      have a1 := of_decide_eq_false h1
      have a2 := of_decide_eq_false h2
      rw [decide_eq_true (by omega : 0 ≤ s), decide_eq_true (by omega : s ≤ 31)]; simp
    rw [hsv]
    clear hvt hsv
    obtain ⟨R, hR⟩ : ∃ x, okTo F 20 = x := ⟨_, rfl⟩
    have HR := Lib.hid hR
    rw [hR]; clear hR
    have HF := Lib.hid hF
    clear hF
    go_enter Try.func14, Try.ntmps14
    go_wp2_with fail
    have r0 : (w.alloc (.cells (rv [s] 20 F) 39)).heap[w.heap.size]? = some (.cells (rv [s] 20 F) 39 (0, 0)) := heap_alloc_new _ _
    have HUW := Lib.hid (show Up w (w.alloc (.cells (rv [s] 20 F) 39)) from (Up.refl w).alloc _)
    generalize w.alloc (.cells (rv [s] 20 F) 39) = W0 at *
    go_loopw [3] (fun i wr => ∃ n : Nat, n ≤ 20 ∧ i = .int .i64 n ∧ okTo F n = true ∧ Up W0 wr) (fun i _ => 20 - (intOf i).toNat)
    case atStart => exact ⟨0, by omega, rfl, rfl, Up.refl _⟩
    case round =>
      obtain ⟨n, hn, rfl, hok, hUr⟩ := hrel
      have HOK := Lib.hid hok
      have HUr := Lib.hid hUr
      by_cases hlt : n < 20
      · have n0 : (0 : Int) ≤ (n : Int) := by omega
        have n1 : (n : Int) < 20 := by omega
        have rr : wr.heap[w.heap.size]? = some (.cells (rv [s] 20 F) 39 (0, 0)) := (hUr.heap (lt_of_block r0)).trans r0
        have KS := Lib.hid (show ∀ w', Up wr w' → (Up wr w' ∧ w'.cell? ⟨w.heap.size, 1 + n, none⟩ = some (.int .i64 (F n))) from fun w' h => ⟨h, (cell_of_row _ _ _ _ _ _ ((h.heap (lt_of_block rr)).trans rr)).trans (rv1_get _ _ _ _ hlt)⟩)
        obtain ⟨_, c0⟩ := KS.out wr (Up.refl _)
        have HBAD := Lib.hid (bad_iff F n hlt HF.out)
        have hm := mk_rng n hlt
        have HO := Lib.hid (fun w => only_any (F n) (MK n) (HF.out n) (by omega) w)
        clear hok hUr rr hm r0
        cases d1 : decide (F n < 0)
        · cases d2 : decide (65535 < F n)
          · cases d3 : (onlyTo (F n) (MK n) 16 != F n)
            · have hg : (bits .andNot .i64 (F n) (MK n) != 0) = false := by rw [HBAD.out, d1, d2, d3]; rfl
              have HG := Lib.hid hg
              clear hg
              go_wp2_with fail
              go_region_held3 (fun w' => Up wr w' ∧ w'.cell? ⟨w.heap.size, 1 + n, none⟩ = some (.int .i64 (F n))) (exact KS.out _ (by first | assumption | exact Up.refl _ | exact Up.drew (Up.refl _))) (first | (go_at_call 26; refine (HO.out _).mono ?_; rintro e w' ⟨rfl, rfl⟩) | (go_at_call 27; refine (mask_any n hlt _).mono ?_; rintro e w3 ⟨rfl, hB3⟩; have hP3 : Up wr w3 := (by first | exact Up.trans (by assumption) hB3 | exact Up.trans (Up.drew (Up.refl wr)) hB3)))
              have hh := (‹Up wr w3 ∧ _›).1
              go_wp2_with fail
              go_roundw
              case rel => exact ⟨n + 1, by omega, by go_num, by rw [okTo_succ, HOK.out, HG.out]; rfl, HUr.out.trans hh⟩
              case measure => simp [intOf]; omega
            · have hg : (bits .andNot .i64 (F n) (MK n) != 0) = true := by rw [HBAD.out, d1, d2, d3]; rfl
              have HG := Lib.hid hg
              clear hg
              go_wp2_with fail
              go_region_held3 (fun w' => Up wr w' ∧ w'.cell? ⟨w.heap.size, 1 + n, none⟩ = some (.int .i64 (F n))) (exact KS.out _ (by first | assumption | exact Up.refl _ | exact Up.drew (Up.refl _))) (first | (go_at_call 26; refine (HO.out _).mono ?_; rintro e w' ⟨rfl, rfl⟩) | (go_at_call 27; refine (mask_any n hlt _).mono ?_; rintro e w3 ⟨rfl, hB3⟩; have hP3 : Up wr w3 := (by first | exact Up.trans (by assumption) hB3 | exact Up.trans (Up.drew (Up.refl wr)) hB3)))
              have hh := (‹Up wr w3 ∧ _›).1
              go_wp2_with fail
              go_ret
              exact ⟨ret_bool (by rw [← HR.out, okTo_bad F n HG.out 20 hlt]), (HUW.out.trans HUr.out).trans hh⟩
          · have hg : (bits .andNot .i64 (F n) (MK n) != 0) = true := by rw [HBAD.out, d1, d2]; rfl
            have HG := Lib.hid hg
            clear hg
            go_wp2_with fail
            go_quiet (fail)
            go_wp2_with fail
            go_ret
            exact ⟨ret_bool (by rw [← HR.out, okTo_bad F n HG.out 20 hlt]), ((HUW.out.trans HUr.out)).drewN _⟩
        · have hg : (bits .andNot .i64 (F n) (MK n) != 0) = true := by rw [HBAD.out, d1]; rfl
          have HG := Lib.hid hg
          clear hg
          go_wp2_with fail
          go_quiet (fail)
          go_wp2_with fail
          go_ret
          exact ⟨ret_bool (by rw [← HR.out, okTo_bad F n HG.out 20 hlt]), ((HUW.out.trans HUr.out)).drewN _⟩
      · obtain rfl : n = 20 := by omega
        go_wp2_with fail
        go_ret
        exact ⟨ret_bool (by rw [← HR.out, HOK.out]), HUW.out.trans HUr.out⟩
end Go.Proofs.Ythlacommhklkkaa
