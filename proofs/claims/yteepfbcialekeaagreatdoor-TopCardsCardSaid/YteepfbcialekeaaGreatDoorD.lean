/- Contracts of banks.Latch and of the package region. -/
import Derived.Test.YteepfbcialekeaaGreatDoorC
namespace Go.Proofs.YteepfbcialekeaaGreatDoor
set_option linter.unusedSimpArgs false
set_option linter.unusedVariables false
open Go.RowKit
open RV
attribute [local go_sem] BM.and8191 BM.and3 BM.and7 BM.and15 BM.and1
theorem size3 : (Tryz.prog.info? 67).map (·.size) = some 3 := by kernel_rfl
theorem latch_plain (pages latch at0 : Int) (hk : vClass pages = some 0) (w : World) : Calls Tryz.prog 12 #[.int .i64 pages, .int .i64 latch, .int .i64 at0] w fun e w' => e = .returned (.int .i64 latch) ∧ Up w w' := by
  have HCL := Lib.hid (show ∀ w, Calls Tryz.prog 16 #[.int .i64 pages] w (fun e w' => e = .returned (.tuple #[.int .i64 0, .bool true]) ∧ Up w w') from fun w => by
    have h := class_any pages w
    rw [hk] at h; exact h)
  clear hk
  go_enter Tryz.func12, Tryz.ntmps12
  go_wp2_with fail
  refine (HCL.out _).mono ?_; rintro e w1 ⟨rfl, hU1⟩
  go_wp2_with fail
  go_ret
  exact ⟨rfl, hU1⟩
theorem held_rom (w : World) : Calls Tryz.prog 38 #[.int .i64 0] w fun e w' => e = .returned (.bool false) ∧ w = w' := by
  go_enter Tryz.func38, Tryz.ntmps38
  go_wp2_with fail
  go_ret
  exact ⟨rfl, rfl⟩
theorem where_rom (phys : Int) (h0 : 0 ≤ phys) (h1 : phys < 1048576) (w : World) : Calls Tryz.prog 8 #[.int .i64 phys] w fun e w' => e = .returned (.agg #[.int .i64 0, .int .i64 (phys / 8192), .int .i64 (phys % 8192)]) ∧ Up w w' := by
  have d0 : decide (phys < 0) = false := decide_eq_false (by omega)
  have d1 : decide (2097152 ≤ phys) = false := decide_eq_false (by omega)
  have d2 : decide (phys / 8192 < 128) = true := decide_eq_true (by omega)
  go_enter Tryz.func8, Tryz.ntmps8
  go_wp2_with fail
  refine bodyPost_ret (v := .agg #[.int .i64 0, .int .i64 (phys / 8192), .int .i64 (phys % 8192)]) ?_ rfl ⟨rfl, ?_⟩
  · simp [results, Tryz.results8, go_sem]
  · repeat (first | exact Up.refl _ | refine Up.alloc ?_ _)
theorem port_any (at0 : Int) (h0 : 0 ≤ at0) (h1 : at0 < 8192) (w : World) : Calls Tryz.prog 23 #[.int .i64 at0] w fun e w' => (∃ k a : Int, 2 ≤ k ∧ k ≤ 8 ∧ e = .returned (.agg #[.int .i64 k, .int .i64 0, .int .i64 a])) ∧ Up w w' := by
  have hk : at0 / 1024 = 0 ∨ at0 / 1024 = 1 ∨ at0 / 1024 = 2 ∨ at0 / 1024 = 3 ∨ at0 / 1024 = 4 ∨ at0 / 1024 = 5 ∨ at0 / 1024 = 6 ∨ at0 / 1024 = 7 := by omega
  rcases hk with hk | hk | hk | hk | hk | hk | hk | hk
  · go_enter Tryz.func23, Tryz.ntmps23
    go_wp2_with fail
    refine bodyPost_ret (v := .agg #[.int .i64 2, .int .i64 0, .int .i64 (at0 % 4)]) ?_ rfl ⟨⟨2, at0 % 4, by omega, by omega, rfl⟩, ?_⟩
    · simp [results, Tryz.results23, go_sem]
    · repeat (first | exact Up.refl _ | refine Up.alloc ?_ _)
  · go_enter Tryz.func23, Tryz.ntmps23
    go_wp2_with fail
    refine bodyPost_ret (v := .agg #[.int .i64 3, .int .i64 0, .int .i64 (at0 % 8)]) ?_ rfl ⟨⟨3, at0 % 8, by omega, by omega, rfl⟩, ?_⟩
    · simp [results, Tryz.results23, go_sem]
    · repeat (first | exact Up.refl _ | refine Up.alloc ?_ _)
  · go_enter Tryz.func23, Tryz.ntmps23
    go_wp2_with fail
    refine bodyPost_ret (v := .agg #[.int .i64 4, .int .i64 0, .int .i64 (at0 % 16)]) ?_ rfl ⟨⟨4, at0 % 16, by omega, by omega, rfl⟩, ?_⟩
    · simp [results, Tryz.results23, go_sem]
    · repeat (first | exact Up.refl _ | refine Up.alloc ?_ _)
  · go_enter Tryz.func23, Tryz.ntmps23
    go_wp2_with fail
    refine bodyPost_ret (v := .agg #[.int .i64 5, .int .i64 0, .int .i64 (at0 % 2)]) ?_ rfl ⟨⟨5, at0 % 2, by omega, by omega, rfl⟩, ?_⟩
    · simp [results, Tryz.results23, go_sem]
    · repeat (first | exact Up.refl _ | refine Up.alloc ?_ _)
  · go_enter Tryz.func23, Tryz.ntmps23
    go_wp2_with fail
    refine bodyPost_ret (v := .agg #[.int .i64 6, .int .i64 0, .int .i64 (0)]) ?_ rfl ⟨⟨6, 0, by omega, by omega, rfl⟩, ?_⟩
    · simp [results, Tryz.results23, go_sem]
    · repeat (first | exact Up.refl _ | refine Up.alloc ?_ _)
  · go_enter Tryz.func23, Tryz.ntmps23
    go_wp2_with fail
    refine bodyPost_ret (v := .agg #[.int .i64 7, .int .i64 0, .int .i64 (at0 % 4)]) ?_ rfl ⟨⟨7, at0 % 4, by omega, by omega, rfl⟩, ?_⟩
    · simp [results, Tryz.results23, go_sem]
    · repeat (first | exact Up.refl _ | refine Up.alloc ?_ _)
  · go_enter Tryz.func23, Tryz.ntmps23
    go_wp2_with fail
    refine bodyPost_ret (v := .agg #[.int .i64 8, .int .i64 0, .int .i64 (0)]) ?_ rfl ⟨⟨8, 0, by omega, by omega, rfl⟩, ?_⟩
    · simp [results, Tryz.results23, go_sem]
    · repeat (first | exact Up.refl _ | refine Up.alloc ?_ _)
  · go_enter Tryz.func23, Tryz.ntmps23
    go_wp2_with fail
    refine bodyPost_ret (v := .agg #[.int .i64 8, .int .i64 0, .int .i64 (0)]) ?_ rfl ⟨⟨8, 0, by omega, by omega, rfl⟩, ?_⟩
    · simp [results, Tryz.results23, go_sem]
    · repeat (first | exact Up.refl _ | refine Up.alloc ?_ _)
theorem where_other (phys : Int) (h0 : 1048576 ≤ phys) (h1 : phys < 2097152) (w : World) : Calls Tryz.prog 8 #[.int .i64 phys] w fun e w' => (∃ k p a : Int, (k != 0) = true ∧ e = .returned (.agg #[.int .i64 k, .int .i64 p, .int .i64 a])) ∧ Up w w' := by
  have d0 : decide (phys < 0) = false := decide_eq_false (by omega)
  have d1 : decide (2097152 ≤ phys) = false := decide_eq_false (by omega)
  have d2 : decide (phys / 8192 < 128) = false := decide_eq_false (by omega)
  have hc : (decide (248 ≤ phys / 8192) = true ∧ decide (phys / 8192 ≤ 251) = true) ∨ (decide (248 ≤ phys / 8192) = true ∧ decide (phys / 8192 ≤ 251) = false ∧ (phys / 8192 == 255) = true) ∨ (decide (248 ≤ phys / 8192) = true ∧ decide (phys / 8192 ≤ 251) = false ∧ (phys / 8192 == 255) = false) ∨ (decide (248 ≤ phys / 8192) = false ∧ (phys / 8192 == 255) = false) := by
    simp only [decide_eq_true_eq, decide_eq_false_iff_not, beq_iff_eq, beq_eq_false_iff_ne]; omega
  rcases hc with ⟨a, b⟩ | ⟨a, b, c⟩ | ⟨a, b, c⟩ | ⟨a, c⟩
  · go_enter Tryz.func8, Tryz.ntmps8
    go_wp2_with fail
    refine bodyPost_ret (v := .agg #[.int .i64 1, .int .i64 0, .int .i64 (phys % 8192)]) ?_ rfl ⟨⟨1, 0, _, rfl, rfl⟩, ?_⟩
    · simp [results, Tryz.results8, go_sem]
    · repeat (first | exact Up.refl _ | refine Up.alloc ?_ _)
  · go_enter Tryz.func8, Tryz.ntmps8
    go_wp2_with fail
    refine (port_any (phys % 8192) (by omega) (by omega) _).mono ?_; rintro e w1 ⟨⟨k, x, hk0, hk1, rfl⟩, hU1⟩
    obtain ⟨hc1, hf1, _⟩ := hU1.facts
    have hz1 := hU1.size
    simp only [World.size_alloc] at hz1
    have l0 : w.heap.size < w1.heap.size := by omega
    have l1 : w.heap.size + 1 < w1.heap.size := by omega
    have l2 : w.heap.size + 1 + 1 < w1.heap.size := by omega
    have hV := Lib.hid (((((Up.refl w).alloc _).alloc _).alloc _).trans hU1)
    have hkn : (k != 0) = true := by rw [bne_iff_ne]; omega
    have r0 : w1.heap[w.heap.size]? = some (.cells #[.int .i64 0, .int .i64 0, .int .i64 0] 67 (0, 0)) := (hU1.heap (by simp <;> omega)).trans (by (repeat (first | assumption | (exact setRow_heap _ _ _ _ _ _ (by assumption)) | (refine heap_at _ _ _ ?_; (first | rfl | (simp; done) | (simp <;> omega) | omega); done) | refine heap_drew' _ _ _ ?_ | (apply heap_past; (case hn => (first | rfl | (simp; done) | (simp <;> omega) | omega))))))
    cases hk8 : (k == 8)
    · go_wp2_with fail
      refine bodyPost_ret (v := .agg #[.int .i64 k, .int .i64 0, .int .i64 x]) ?_ rfl ⟨⟨k, 0, x, hkn, rfl⟩, ?_⟩
      · exact (results_cell_row rfl _ _ w.heap.size 67 _ (0, 0) _ rfl (heap_setCell_same _ _ 2 _ _ _ (heap_setCell_same _ _ 1 _ _ _ (heap_setCell_same _ _ 0 _ _ _ ((heap_setCell_other _ _ _ _ (by show w.heap.size ≠ w.heap.size + 1 + 1; omega)).trans ((heap_setCell_other _ _ _ _ (by show w.heap.size ≠ w.heap.size + 1 + 1; omega)).trans ((heap_setCell_other _ _ _ _ (by show w.heap.size ≠ w.heap.size + 1 + 1; omega)).trans r0)))))) Tryz.underlying67 rfl size3)
      · exact (Up.setCell (Up.setCell (Up.setCell (Up.setCell (Up.setCell (Up.setCell hV.out (by show w.heap.size ≤ w.heap.size + 1 + 1; omega) _) (by show w.heap.size ≤ w.heap.size + 1 + 1; omega) _) (by show w.heap.size ≤ w.heap.size + 1 + 1; omega) _) (Nat.le_refl _) _) (Nat.le_refl _) _) (Nat.le_refl _) _)
    · obtain rfl : k = 8 := by simpa using hk8
      cases hx0 : (x == 0)
      · go_wp2_with fail
        refine bodyPost_ret (v := .agg #[.int .i64 8, .int .i64 0, .int .i64 x]) ?_ rfl ⟨⟨8, 0, x, rfl, rfl⟩, ?_⟩
        · exact (results_cell_row rfl _ _ w.heap.size 67 _ (0, 0) _ rfl (heap_setCell_same _ _ 2 _ _ _ (heap_setCell_same _ _ 1 _ _ _ (heap_setCell_same _ _ 0 _ _ _ ((heap_setCell_other _ _ _ _ (by show w.heap.size ≠ w.heap.size + 1 + 1; omega)).trans ((heap_setCell_other _ _ _ _ (by show w.heap.size ≠ w.heap.size + 1 + 1; omega)).trans ((heap_setCell_other _ _ _ _ (by show w.heap.size ≠ w.heap.size + 1 + 1; omega)).trans r0)))))) Tryz.underlying67 rfl size3)
        · exact (Up.setCell (Up.setCell (Up.setCell (Up.setCell (Up.setCell (Up.setCell hV.out (by show w.heap.size ≤ w.heap.size + 1 + 1; omega) _) (by show w.heap.size ≤ w.heap.size + 1 + 1; omega) _) (by show w.heap.size ≤ w.heap.size + 1 + 1; omega) _) (Nat.le_refl _) _) (Nat.le_refl _) _) (Nat.le_refl _) _)
      · go_wp2_with fail
        refine bodyPost_ret (v := .agg #[.int .i64 8, .int .i64 0, .int .i64 0]) ?_ rfl ⟨⟨8, 0, 0, rfl, rfl⟩, ?_⟩
        · exact (results_cell_row rfl _ _ w.heap.size 67 _ (0, 0) _ rfl (heap_setCell_same _ _ 2 _ _ _ (heap_setCell_same _ _ 1 _ _ _ (heap_setCell_same _ _ 0 _ _ _ ((heap_setCell_other _ _ _ _ (by show w.heap.size ≠ w.heap.size + 1 + 1; omega)).trans ((heap_setCell_other _ _ _ _ (by show w.heap.size ≠ w.heap.size + 1 + 1; omega)).trans ((heap_setCell_other _ _ _ _ (by show w.heap.size ≠ w.heap.size + 1 + 1; omega)).trans r0)))))) Tryz.underlying67 rfl size3)
        · exact (Up.setCell (Up.setCell (Up.setCell (Up.setCell (Up.setCell (Up.setCell hV.out (by show w.heap.size ≤ w.heap.size + 1 + 1; omega) _) (by show w.heap.size ≤ w.heap.size + 1 + 1; omega) _) (by show w.heap.size ≤ w.heap.size + 1 + 1; omega) _) (Nat.le_refl _) _) (Nat.le_refl _) _) (Nat.le_refl _) _)
  · go_enter Tryz.func8, Tryz.ntmps8
    go_wp2_with fail
    refine bodyPost_ret (v := .agg #[.int .i64 8, .int .i64 0, .int .i64 0]) ?_ rfl ⟨⟨8, 0, _, rfl, rfl⟩, ?_⟩
    · simp [results, Tryz.results8, go_sem]
    · repeat (first | exact Up.refl _ | refine Up.alloc ?_ _)
  · go_enter Tryz.func8, Tryz.ntmps8
    go_wp2_with fail
    refine bodyPost_ret (v := .agg #[.int .i64 8, .int .i64 0, .int .i64 0]) ?_ rfl ⟨⟨8, 0, _, rfl, rfl⟩, ?_⟩
    · simp [results, Tryz.results8, go_sem]
    · repeat (first | exact Up.refl _ | refine Up.alloc ?_ _)
end Go.Proofs.YteepfbcialekeaaGreatDoor
