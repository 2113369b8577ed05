/- Contract of regs.Write: the high byte of a register. -/
import Derived.Test.YthlacommhklkkaaR
namespace Go.Proofs.Ythlacommhklkkaa
open Go.RowKit
open RV
attribute [local go_sem] rv1_set0 rv1_set rv1_get0 rv1_get rv0_get BM.and31 idx20
theorem write_high (j : Nat) (hj : j < 20) (b : Int) (F : Nat → Int) (w : World) : Calls Try.prog 11 #[.agg (rv [(j : Int)] 20 F), .int .i64 3, .int .i64 b] w
    fun e w' => e = .returned (.tuple #[.agg (rv [(j : Int)] 20 (upd F j (bits .and .i64 (F j % 256 + 256 * (b % 256)) (MK j)))), .int .i64 (vEff j true)]) ∧ Up w w' := by
  have hj0 : (0 : Int) ≤ (j : Int) := by omega
  have hj1 : (j : Int) < 20 := by omega
  have hb0 : decide ((j : Int) < 0) = false := decide_eq_false (by omega)
  have hb1 : decide (20 ≤ (j : Int)) = false := decide_eq_false (by omega)
  go_enter Try.func11, Try.ntmps11
  go_wp2_with (first | (first | (apply load_is (ty := 24); (case ho => rfl); (case hgd => rfl); (case hx => rfl); (case hg => (repeat (first | assumption | (exact setRow_heap _ _ _ _ _ _ (by assumption)) | (refine heap_at _ _ _ ?_; (first | rfl | (simp; done) | (simp <;> omega) | omega); done) | refine heap_drew' _ _ _ ?_ | (apply heap_past; (case hn => (first | rfl | (simp; done) | (simp <;> omega) | omega)))))); (case hu => exact Try.underlying24); (case hd => rfl); (case hi => exact sz21 _ _)) | (apply store_is (ty := 24); (case ho => rfl); (case hgd => rfl); (case hx => rfl); (case hy => rfl); (case h1 => exact rv_one _ _ _); (case hw => (repeat (first | (refine setRow_at _ _ _ _ _ ?_; (first | rfl | (simp; done) | (simp <;> omega) | omega); done) | refine setRow_drew_is _ _ _ _ ?_ | (apply setRow_past_is; (case hn => (first | rfl | (simp; done) | (simp <;> omega) | omega))) | exact rfl))); (case hg => (repeat (first | assumption | (exact setRow_heap _ _ _ _ _ _ (by assumption)) | (refine heap_at _ _ _ ?_; (first | rfl | (simp; done) | (simp <;> omega) | omega); done) | refine heap_drew' _ _ _ ?_ | (apply heap_past; (case hn => (first | rfl | (simp; done) | (simp <;> omega) | omega)))))); (case hi => exact sz21 _ _); (case hold => simp [rv_size]))) | (go_at_call 22; refine (split_any _ _).mono ?_; rintro e w' ⟨rfl, rfl⟩))
  have hP : PW w w.heap.size 24 (j : Int) 20 F j (w.heap.size + 1) (.cells #[.int .i64 0, .int .i64 0, .int .i64 0, .int .i64 0, .int .i64 0, .int .i64 0, .int .i64 0, .int .i64 0, .int .i64 0, .int .i64 0, .int .i64 0, .int .i64 0, .int .i64 0, .int .i64 0, .int .i64 0, .int .i64 0, .int .i64 0, .int .i64 0, .int .i64 0, .int .i64 0, .int .i64 0] 24) ((w.alloc (.cells (rv [(j : Int)] 20 F) 24)).alloc (.cells #[.int .i64 0, .int .i64 0, .int .i64 0, .int .i64 0, .int .i64 0, .int .i64 0, .int .i64 0, .int .i64 0, .int .i64 0, .int .i64 0, .int .i64 0, .int .i64 0, .int .i64 0, .int .i64 0, .int .i64 0, .int .i64 0, .int .i64 0, .int .i64 0, .int .i64 0, .int .i64 0, .int .i64 0] 24)) := PW.first (((Up.refl w).alloc _).alloc _) (by (repeat (first | assumption | (exact setRow_heap _ _ _ _ _ _ (by assumption)) | (refine heap_at _ _ _ ?_; (first | rfl | (simp; done) | (simp <;> omega) | omega); done) | refine heap_drew' _ _ _ ?_ | (apply heap_past; (case hn => (first | rfl | (simp; done) | (simp <;> omega) | omega)))))) (by (repeat (first | assumption | (exact setRow_heap _ _ _ _ _ _ (by assumption)) | (refine heap_at _ _ _ ?_; (first | rfl | (simp; done) | (simp <;> omega) | omega); done) | refine heap_drew' _ _ _ ?_ | (apply heap_past; (case hn => (first | rfl | (simp; done) | (simp <;> omega) | omega))))))
  obtain ⟨Z, hZ⟩ : ∃ Z : Obj, Z = .cells #[.int .i64 0, .int .i64 0, .int .i64 0, .int .i64 0, .int .i64 0, .int .i64 0, .int .i64 0, .int .i64 0, .int .i64 0, .int .i64 0, .int .i64 0, .int .i64 0, .int .i64 0, .int .i64 0, .int .i64 0, .int .i64 0, .int .i64 0, .int .i64 0, .int .i64 0, .int .i64 0, .int .i64 0] 24 := ⟨_, rfl⟩
  rw [← hZ] at hP ⊢
  generalize (w.alloc (.cells (rv [(j : Int)] 20 F) 24)).alloc Z = W0 at *
  obtain ⟨_, z0, z1, zf⟩ := hP.all hj
  go_region_held3 (fun w' => PW w w.heap.size 24 (j : Int) 20 F j (w.heap.size + 1) Z w' ∧ w'.cell? ⟨w.heap.size, 0, none⟩ = some (.int .i64 j) ∧ w'.cell? ⟨w.heap.size, 1 + j, none⟩ = some (heldAt w' ⟨w.heap.size, 1 + j, none⟩) ∧ w'.frozen? ⟨w.heap.size, 1 + j, none⟩ = false) (exact PW.all (by first | assumption | exact PW.drew (by assumption) | exact PW.store (by assumption) (Nat.le_refl _) (by omega) _) hj) (first | (go_at_call 23; refine (join_any _ _ _).mono ?_; rintro e w3 ⟨rfl, hB3⟩; have hP3 : PW w w.heap.size 24 (j : Int) 20 F j (w.heap.size + 1) Z w3 := (by first | exact PW.later (by assumption) hB3 | exact PW.later (PW.drew (by assumption)) hB3)) | (go_at_call 24; refine (masks_any _).mono ?_; rintro e w3 ⟨rfl, hB3⟩; have hP3 : PW w w.heap.size 24 (j : Int) 20 F j (w.heap.size + 1) Z w3 := (by first | exact PW.later (by assumption) hB3 | exact PW.later (PW.drew (by assumption)) hB3)))
  have hrow := hP3.row_store (bits .and .i64 (F j % 256 + 256 * (b % 256)) (MK j))
  have hPs := hP3.store (Nat.le_refl _) (by omega) (bits .and .i64 (F j % 256 + 256 * (b % 256)) (MK j))
  have hup := hPs.up
  have hres := hPs.res
  subst hZ
  clear hPs hP3 hB3 hP
  generalize w3.setCell ⟨w.heap.size, 1 + j, none⟩ (.int .i64 (bits .and .i64 (F j % 256 + 256 * (b % 256)) (MK j))) = W1 at *
  have c0 : W1.cell? ⟨w.heap.size, 0, none⟩ = some (.int .i64 j) := (cell_of_row _ _ _ _ _ _ hrow).trans (rv1_get0 _ _ _)
  go_wp2_with fail
  refine wp_region_still_tail 6 (by kernel_rfl) (by kernel_rfl) ?_
  simp only [List.take_succ_cons, List.take_zero, List.drop_succ_cons, List.drop_zero]
  change wpStill _ _ W1.drew (fun a' => wpList _ _ _ _ a' W1.drew) _ _
  have hrow' : W1.drew.heap[w.heap.size]? = _ := hrow
  have hres' : W1.drew.heap[w.heap.size + 1]? = _ := hres
  have hup' := hup.drew
  have c0' : W1.drew.cell? ⟨w.heap.size, 0, none⟩ = some (.int .i64 j) := c0
  clear hrow hres hup c0
  generalize W1.drew = W2 at *
  (apply still_load_row (ty := 24); (case ho => rfl); (case hgd => rfl); (case hx => rfl); (case hg => (repeat (first | assumption | (exact setRow_heap _ _ _ _ _ _ (by assumption)) | (refine heap_at _ _ _ ?_; (first | rfl | (simp; done) | (simp <;> omega) | omega); done) | refine heap_drew' _ _ _ ?_ | (apply heap_past; (case hn => (first | rfl | (simp; done) | (simp <;> omega) | omega)))))); (case hu => exact Try.underlying24); (case hd => rfl); (case hi => exact sz21 _ _))
  repeat still_step
  still_call ((effect_any _ _ _).mono (fun e w' h => ⟨h.1, h.2.symm⟩))
  refine wpStill_nil ?_
  go_wp2_with (apply store_is (ty := 24); (case ho => rfl); (case hgd => rfl); (case hx => rfl); (case hy => rfl); (case h1 => exact rv_one _ _ _); (case hw => (repeat (first | (refine setRow_at _ _ _ _ _ ?_; (first | rfl | (simp; done) | (simp <;> omega) | omega); done) | refine setRow_drew_is _ _ _ _ ?_ | (apply setRow_past_is; (case hn => (first | rfl | (simp; done) | (simp <;> omega) | omega))) | exact rfl))); (case hg => (repeat (first | assumption | (exact setRow_heap _ _ _ _ _ _ (by assumption)) | (refine heap_at _ _ _ ?_; (first | rfl | (simp; done) | (simp <;> omega) | omega); done) | refine heap_drew' _ _ _ ?_ | (apply heap_past; (case hn => (first | rfl | (simp; done) | (simp <;> omega) | omega)))))); (case hi => exact sz21 _ _); (case hold => simp [rv_size]))
  refine bodyPost_ret (v := .tuple #[.agg (rv [(j : Int)] 20 (upd F j (bits .and .i64 (F j % 256 + 256 * (b % 256)) (MK j)))), .int .i64 (vEff j true)]) ?_ rfl ⟨rfl, ?_⟩
  · (apply results_row_tmp; (case h => rfl); (case hp => rfl); (case hr => rfl); (case hg => (repeat (first | assumption | (exact setRow_heap _ _ _ _ _ _ (by assumption)) | (refine heap_at _ _ _ ?_; (first | rfl | (simp; done) | (simp <;> omega) | omega); done) | refine heap_drew' _ _ _ ?_ | (apply heap_past; (case hn => (first | rfl | (simp; done) | (simp <;> omega) | omega)))))); (case hu => exact Try.underlying24); (case hd => rfl); (case hi => exact sz21 _ _))
  · exact Up.setRow hup' (by omega) _
end Go.Proofs.Ythlacommhklkkaa
