/- Contracts of the reference's Write. -/
import Derived.Test.YthlacommhklkkaaF
import Derived.Test.YthlacommhklkkaaPW
import Derived.Deep.RegionHeld3
import Derived.StillTailTactics
namespace Go.Proofs.Ythlacommhklkkaa
open Go.RowKit
open RV
theorem size21r : (Try.prog.info? 39).map (·.size) = some 21 := by kernel_rfl
theorem sz21r (s : Int) (F : Nat → Int) : (Try.prog.info? 39).map (·.size) = some (rv [s] 20 F).size := by rw [rv_size21]; exact size21r
theorem reffect_lo (s : Int) (w : World) : Calls Try.prog 30 #[.int .i64 s, .int .i64 2] w fun e w' => e = .returned (.int .i64 (vEff s false)) ∧ w = w' := by
  have := reffect_any s false w
  simpa using this
theorem reffect_hi (s : Int) (w : World) : Calls Try.prog 30 #[.int .i64 s, .int .i64 3] w fun e w' => e = .returned (.int .i64 (vEff s true)) ∧ w = w' := by
  have := reffect_any s true w
  simpa using this
attribute [local go_sem] rv1_set0 rv1_set rv1_get0 rv1_get rv0_get idx20
theorem rwrite_sel (s b : Int) (F : Nat → Int) (hb : -9223372036854775808 ≤ b ∧ b ≤ 9223372036854775807) (w : World) : Calls Try.prog 15 #[.agg (rv [s] 20 F), .int .i64 0, .int .i64 b] w fun e w' => e = .returned (.tuple #[.agg (rv [b % 32] 20 F), .int .i64 0]) ∧ Up w w' := by
  have h0 : 0 ≤ b % 256 := by omega
  have h1 : b % 256 ≤ 255 := by omega
  have ht : (b % 256).tmod 32 = b % 32 := by rw [Int.tmod_eq_emod_of_nonneg h0]; omega
  go_enter Try.func15, Try.ntmps15
  go_wp2_with (first | (apply load_is (ty := 39); (case ho => rfl); (case hgd => rfl); (case hx => rfl); (case hg => (repeat (first | assumption | (exact setRow_heap _ _ _ _ _ _ (by assumption)) | (refine heap_at _ _ _ ?_; (first | rfl | (simp; done) | (simp <;> omega) | omega); done) | refine heap_drew' _ _ _ ?_ | (apply heap_past; (case hn => (first | rfl | (simp; done) | (simp <;> omega) | omega)))))); (case hu => exact Try.underlying39); (case hd => rfl); (case hi => exact sz21r _ _)) | (apply store_is (ty := 39); (case ho => rfl); (case hgd => rfl); (case hx => rfl); (case hy => rfl); (case h1 => exact rv_one _ _ _); (case hw => (repeat (first | (refine setRow_at _ _ _ _ _ ?_; (first | rfl | (simp; done) | (simp <;> omega) | omega); done) | apply setRow_drew_is | (apply setRow_past_is; (case hn => (first | rfl | (simp; done) | (simp <;> omega) | omega))) | exact rfl))); (case hg => (repeat (first | assumption | (exact setRow_heap _ _ _ _ _ _ (by assumption)) | (refine heap_at _ _ _ ?_; (first | rfl | (simp; done) | (simp <;> omega) | omega); done) | refine heap_drew' _ _ _ ?_ | (apply heap_past; (case hn => (first | rfl | (simp; done) | (simp <;> omega) | omega)))))); (case hi => exact sz21r _ _); (case hold => simp [rv_size])) | (go_at_call 28; refine (rbyte_any _ _ hb).mono ?_; rintro e w' ⟨rfl, rfl⟩))
  refine bodyPost_ret (v := .tuple #[.agg (rv [b % 32] 20 F), .int .i64 0]) ?_ rfl ⟨rfl, ?_⟩
  · (apply results_row_tmp; (case h => rfl); (case hp => rfl); (case hr => rfl); (case hg => (repeat (first | assumption | (exact setRow_heap _ _ _ _ _ _ (by assumption)) | (refine heap_at _ _ _ ?_; (first | rfl | (simp; done) | (simp <;> omega) | omega); done) | refine heap_drew' _ _ _ ?_ | (apply heap_past; (case hn => (first | rfl | (simp; done) | (simp <;> omega) | omega)))))); (case hu => exact Try.underlying39); (case hd => rfl); (case hi => exact sz21r _ _))
  · exact ((Up.refl w).alloc _).alloc _
theorem rwrite_none (s at0 b : Int) (F : Nat → Int) (hb : -9223372036854775808 ≤ b ∧ b ≤ 9223372036854775807) (w : World) (h : (at0 == 0) = false) (h2 : (at0 == 2) = false) (h3 : (at0 == 3) = false) : Calls Try.prog 15 #[.agg (rv [s] 20 F), .int .i64 at0, .int .i64 b] w fun e w' => e = .returned (.tuple #[.agg (rv [s] 20 F), .int .i64 0]) ∧ Up w w' := by
  have h2' : (at0 != 2) = true := by simpa using h2
  have h3' : (at0 != 3) = true := by simpa using h3
  go_enter Try.func15, Try.ntmps15
  go_wp2_with (first | (apply load_is (ty := 39); (case ho => rfl); (case hgd => rfl); (case hx => rfl); (case hg => (repeat (first | assumption | (exact setRow_heap _ _ _ _ _ _ (by assumption)) | (refine heap_at _ _ _ ?_; (first | rfl | (simp; done) | (simp <;> omega) | omega); done) | refine heap_drew' _ _ _ ?_ | (apply heap_past; (case hn => (first | rfl | (simp; done) | (simp <;> omega) | omega)))))); (case hu => exact Try.underlying39); (case hd => rfl); (case hi => exact sz21r _ _)) | (apply store_is (ty := 39); (case ho => rfl); (case hgd => rfl); (case hx => rfl); (case hy => rfl); (case h1 => exact rv_one _ _ _); (case hw => (repeat (first | (refine setRow_at _ _ _ _ _ ?_; (first | rfl | (simp; done) | (simp <;> omega) | omega); done) | apply setRow_drew_is | (apply setRow_past_is; (case hn => (first | rfl | (simp; done) | (simp <;> omega) | omega))) | exact rfl))); (case hg => (repeat (first | assumption | (exact setRow_heap _ _ _ _ _ _ (by assumption)) | (refine heap_at _ _ _ ?_; (first | rfl | (simp; done) | (simp <;> omega) | omega); done) | refine heap_drew' _ _ _ ?_ | (apply heap_past; (case hn => (first | rfl | (simp; done) | (simp <;> omega) | omega)))))); (case hi => exact sz21r _ _); (case hold => simp [rv_size])) | (go_at_call 28; refine (rbyte_any _ _ hb).mono ?_; rintro e w' ⟨rfl, rfl⟩))
  refine bodyPost_ret (v := .tuple #[.agg (rv [s] 20 F), .int .i64 0]) ?_ rfl ⟨rfl, ?_⟩
  · (apply results_row_tmp; (case h => rfl); (case hp => rfl); (case hr => rfl); (case hg => (repeat (first | assumption | (exact setRow_heap _ _ _ _ _ _ (by assumption)) | (refine heap_at _ _ _ ?_; (first | rfl | (simp; done) | (simp <;> omega) | omega); done) | refine heap_drew' _ _ _ ?_ | (apply heap_past; (case hn => (first | rfl | (simp; done) | (simp <;> omega) | omega)))))); (case hu => exact Try.underlying39); (case hd => rfl); (case hi => exact sz21r _ _))
  · exact ((Up.refl w).alloc _).alloc _
theorem rwrite_far (s at0 b : Int) (F : Nat → Int) (hb : -9223372036854775808 ≤ b ∧ b ≤ 9223372036854775807) (w : World) (ha : at0 = 2 ∨ at0 = 3) (hs : s < 0 ∨ 20 ≤ s) : Calls Try.prog 15 #[.agg (rv [s] 20 F), .int .i64 at0, .int .i64 b] w fun e w' => e = .returned (.tuple #[.agg (rv [s] 20 F), .int .i64 0]) ∧ Up w w' := by
  have hc : decide (s < 0) = true ∨ (decide (s < 0) = false ∧ decide (19 < s) = true) := by simp only [decide_eq_true_eq, decide_eq_false_iff_not]; omega
  clear hs
  rcases ha with rfl | rfl <;> rcases hc with hc | ⟨hc, hd⟩
  all_goals
    (go_enter Try.func15, Try.ntmps15
     go_wp2_with (first | (apply load_is (ty := 39); (case ho => rfl); (case hgd => rfl); (case hx => rfl); (case hg => (repeat (first | assumption | (exact setRow_heap _ _ _ _ _ _ (by assumption)) | (refine heap_at _ _ _ ?_; (first | rfl | (simp; done) | (simp <;> omega) | omega); done) | refine heap_drew' _ _ _ ?_ | (apply heap_past; (case hn => (first | rfl | (simp; done) | (simp <;> omega) | omega)))))); (case hu => exact Try.underlying39); (case hd => rfl); (case hi => exact sz21r _ _)) | (apply store_is (ty := 39); (case ho => rfl); (case hgd => rfl); (case hx => rfl); (case hy => rfl); (case h1 => exact rv_one _ _ _); (case hw => (repeat (first | (refine setRow_at _ _ _ _ _ ?_; (first | rfl | (simp; done) | (simp <;> omega) | omega); done) | apply setRow_drew_is | (apply setRow_past_is; (case hn => (first | rfl | (simp; done) | (simp <;> omega) | omega))) | exact rfl))); (case hg => (repeat (first | assumption | (exact setRow_heap _ _ _ _ _ _ (by assumption)) | (refine heap_at _ _ _ ?_; (first | rfl | (simp; done) | (simp <;> omega) | omega); done) | refine heap_drew' _ _ _ ?_ | (apply heap_past; (case hn => (first | rfl | (simp; done) | (simp <;> omega) | omega)))))); (case hi => exact sz21r _ _); (case hold => simp [rv_size])) | (go_at_call 28; refine (rbyte_any _ _ hb).mono ?_; rintro e w' ⟨rfl, rfl⟩))
     refine bodyPost_ret (v := .tuple #[.agg (rv [s] 20 F), .int .i64 0]) ?_ rfl ⟨rfl, ?_⟩
     · (apply results_row_tmp; (case h => rfl); (case hp => rfl); (case hr => rfl); (case hg => (repeat (first | assumption | (exact setRow_heap _ _ _ _ _ _ (by assumption)) | (refine heap_at _ _ _ ?_; (first | rfl | (simp; done) | (simp <;> omega) | omega); done) | refine heap_drew' _ _ _ ?_ | (apply heap_past; (case hn => (first | rfl | (simp; done) | (simp <;> omega) | omega)))))); (case hu => exact Try.underlying39); (case hd => rfl); (case hi => exact sz21r _ _))
     · exact ((Up.refl w).alloc _).alloc _)
set_option maxHeartbeats 2000000 in
theorem rwrite_low (j : Nat) (hj : j < 20) (b : Int) (F : Nat → Int) (hb : -9223372036854775808 ≤ b ∧ b ≤ 9223372036854775807) (hF : -9223372036854775808 ≤ F j ∧ F j ≤ 9223372036854775807) (w : World) : Calls Try.prog 15 #[.agg (rv [(j : Int)] 20 F), .int .i64 2, .int .i64 b] w
    fun e w' => e = .returned (.tuple #[.agg (rv [(j : Int)] 20 (upd F j (bits .and .i64 (b % 256 + 256 * (F j / 256 % 256)) (MK j)))), .int .i64 (vEff j false)]) ∧ Up w w' := by
  have hj0 : (0 : Int) ≤ (j : Int) := by omega
  have hj1 : (j : Int) < 20 := by omega
  have hb0 : decide ((j : Int) < 0) = false := decide_eq_false (by omega)
  have hb1 : decide (19 < (j : Int)) = false := decide_eq_false (by omega)
  have x0 : 0 ≤ b % 256 := by omega
  have x1 : b % 256 ≤ 255 := by omega
  have f0 : 0 ≤ F j % 65536 := by omega
  have f1 : F j % 65536 ≤ 65535 := by omega
  have hd : (F j % 65536).tdiv 256 = F j % 65536 / 256 := Int.tdiv_eq_ediv_of_nonneg f0
  have hd2 : F j % 65536 / 256 * 256 + b % 256 = (b % 256 + 256 * (F j / 256 % 256)) := by omega
  have ho := only_and (b % 256 + 256 * (F j / 256 % 256)) (MK j) (by omega) (mk_rng j hj)
  have hv0 : 0 ≤ (b % 256 + 256 * (F j / 256 % 256)) := by omega
  have hv1 : (b % 256 + 256 * (F j / 256 % 256)) ≤ 65535 := by omega
  obtain ⟨X, hX⟩ : ∃ X, (b % 256 + 256 * (F j / 256 % 256)) = X := ⟨_, rfl⟩
  rw [hX] at ho hv0 hv1 hd2 ⊢
  obtain ⟨V, hV⟩ : ∃ V, bits .and .i64 X (MK j) = V := ⟨_, rfl⟩
  rw [hV] at ho ⊢
  have hm := mk_rng j hj
  have HO := Lib.hid (show ∀ w, Calls Try.prog 26 #[.int .i64 X, .int .i64 (MK j)] w (fun e w' => e = .returned (.int .i64 V) ∧ w = w') from fun w => by
    have h := only_any X (MK j) (by omega) (by omega) w
    rw [ho] at h; exact h)
  clear hX hV ho hm
  go_enter Try.func15, Try.ntmps15
  go_wp2_with (first | (apply load_is (ty := 39); (case ho => rfl); (case hgd => rfl); (case hx => rfl); (case hg => (repeat (first | assumption | (exact setRow_heap _ _ _ _ _ _ (by assumption)) | (refine heap_at _ _ _ ?_; (first | rfl | (simp; done) | (simp <;> omega) | omega); done) | refine heap_drew' _ _ _ ?_ | (apply heap_past; (case hn => (first | rfl | (simp; done) | (simp <;> omega) | omega)))))); (case hu => exact Try.underlying39); (case hd => rfl); (case hi => exact sz21r _ _)) | (apply store_is (ty := 39); (case ho => rfl); (case hgd => rfl); (case hx => rfl); (case hy => rfl); (case h1 => exact rv_one _ _ _); (case hw => (repeat (first | (refine setRow_at _ _ _ _ _ ?_; (first | rfl | (simp; done) | (simp <;> omega) | omega); done) | apply setRow_drew_is | (apply setRow_past_is; (case hn => (first | rfl | (simp; done) | (simp <;> omega) | omega))) | exact rfl))); (case hg => (repeat (first | assumption | (exact setRow_heap _ _ _ _ _ _ (by assumption)) | (refine heap_at _ _ _ ?_; (first | rfl | (simp; done) | (simp <;> omega) | omega); done) | refine heap_drew' _ _ _ ?_ | (apply heap_past; (case hn => (first | rfl | (simp; done) | (simp <;> omega) | omega)))))); (case hi => exact sz21r _ _); (case hold => simp [rv_size])) | (go_at_call 28; refine (rbyte_any _ _ hb).mono ?_; rintro e w' ⟨rfl, rfl⟩) | (go_at_call 29; refine (rword_any _ _ hF).mono ?_; rintro e w' ⟨rfl, rfl⟩))
  have hP : PW w w.heap.size 39 (j : Int) 20 F j (w.heap.size + 1) (.cells #[.int .i64 0, .int .i64 0, .int .i64 0, .int .i64 0, .int .i64 0, .int .i64 0, .int .i64 0, .int .i64 0, .int .i64 0, .int .i64 0, .int .i64 0, .int .i64 0, .int .i64 0, .int .i64 0, .int .i64 0, .int .i64 0, .int .i64 0, .int .i64 0, .int .i64 0, .int .i64 0, .int .i64 0] 39) ((w.alloc (.cells (rv [(j : Int)] 20 F) 39)).alloc (.cells #[.int .i64 0, .int .i64 0, .int .i64 0, .int .i64 0, .int .i64 0, .int .i64 0, .int .i64 0, .int .i64 0, .int .i64 0, .int .i64 0, .int .i64 0, .int .i64 0, .int .i64 0, .int .i64 0, .int .i64 0, .int .i64 0, .int .i64 0, .int .i64 0, .int .i64 0, .int .i64 0, .int .i64 0] 39)) := PW.first (((Up.refl w).alloc _).alloc _) (by (repeat (first | assumption | (exact setRow_heap _ _ _ _ _ _ (by assumption)) | (refine heap_at _ _ _ ?_; (first | rfl | (simp; done) | (simp <;> omega) | omega); done) | refine heap_drew' _ _ _ ?_ | (apply heap_past; (case hn => (first | rfl | (simp; done) | (simp <;> omega) | omega)))))) (by (repeat (first | assumption | (exact setRow_heap _ _ _ _ _ _ (by assumption)) | (refine heap_at _ _ _ ?_; (first | rfl | (simp; done) | (simp <;> omega) | omega); done) | refine heap_drew' _ _ _ ?_ | (apply heap_past; (case hn => (first | rfl | (simp; done) | (simp <;> omega) | omega))))))
  obtain ⟨Z, hZ⟩ : ∃ Z : Obj, Z = .cells #[.int .i64 0, .int .i64 0, .int .i64 0, .int .i64 0, .int .i64 0, .int .i64 0, .int .i64 0, .int .i64 0, .int .i64 0, .int .i64 0, .int .i64 0, .int .i64 0, .int .i64 0, .int .i64 0, .int .i64 0, .int .i64 0, .int .i64 0, .int .i64 0, .int .i64 0, .int .i64 0, .int .i64 0] 39 := ⟨_, rfl⟩
  rw [← hZ] at hP ⊢
  generalize (w.alloc (.cells (rv [(j : Int)] 20 F) 39)).alloc Z = W0 at *
  obtain ⟨_, z0, z1, zf⟩ := hP.all hj
  go_region_held3 (fun w' => PW w w.heap.size 39 (j : Int) 20 F j (w.heap.size + 1) Z w' ∧ w'.cell? ⟨w.heap.size, 0, none⟩ = some (.int .i64 j) ∧ w'.cell? ⟨w.heap.size, 1 + j, none⟩ = some (heldAt w' ⟨w.heap.size, 1 + j, none⟩) ∧ w'.frozen? ⟨w.heap.size, 1 + j, none⟩ = false) (exact PW.all (by first | assumption | exact PW.drew (by assumption) | exact PW.store (by assumption) (Nat.le_refl _) (by omega) _) hj) (first | (go_at_call 26; refine (HO.out _).mono ?_; rintro e w' ⟨rfl, rfl⟩) | (go_at_call 27; refine (mask_any j hj _).mono ?_; rintro e w3 ⟨rfl, hB3⟩; have hP3 : PW w w.heap.size 39 (j : Int) 20 F j (w.heap.size + 1) Z w3 := (by first | exact PW.later (by assumption) hB3 | exact PW.later (PW.drew (by assumption)) hB3)))
  have hrow := hP3.row_store V
  have hPs := hP3.store (Nat.le_refl _) (by omega) V
  have hup := hPs.up
  have hres := hPs.res
  subst hZ
  clear hPs hP3 hB3 hP
  generalize w3.setCell ⟨w.heap.size, 1 + j, none⟩ (.int .i64 V) = W1 at *
  have c0 : W1.cell? ⟨w.heap.size, 0, none⟩ = some (.int .i64 j) := (cell_of_row _ _ _ _ _ _ hrow).trans (rv1_get0 _ _ _)
  go_wp2_with fail
  refine wp_region_still_tail 5 (by kernel_rfl) (by kernel_rfl) ?_
  simp only [List.take_succ_cons, List.take_zero, List.drop_succ_cons, List.drop_zero]
  change wpStill _ _ W1.drew (fun a' => wpList _ _ _ _ a' W1.drew) _ _
  have hrow' : W1.drew.heap[w.heap.size]? = _ := hrow
  have hres' : W1.drew.heap[w.heap.size + 1]? = _ := hres
  have hup' := hup.drew
  have c0' : W1.drew.cell? ⟨w.heap.size, 0, none⟩ = some (.int .i64 j) := c0
  clear hrow hres hup c0
  generalize W1.drew = W2 at *
  (apply still_load_row (ty := 39); (case ho => rfl); (case hgd => rfl); (case hx => rfl); (case hg => (repeat (first | assumption | (exact setRow_heap _ _ _ _ _ _ (by assumption)) | (refine heap_at _ _ _ ?_; (first | rfl | (simp; done) | (simp <;> omega) | omega); done) | refine heap_drew' _ _ _ ?_ | (apply heap_past; (case hn => (first | rfl | (simp; done) | (simp <;> omega) | omega)))))); (case hu => exact Try.underlying39); (case hd => rfl); (case hi => exact sz21r _ _))
  repeat still_step
  still_call ((reffect_lo _ _).mono (fun e w' h => ⟨h.1, h.2.symm⟩))
  refine wpStill_nil ?_
  go_wp2_with (apply store_is (ty := 39); (case ho => rfl); (case hgd => rfl); (case hx => rfl); (case hy => rfl); (case h1 => exact rv_one _ _ _); (case hw => (repeat (first | (refine setRow_at _ _ _ _ _ ?_; (first | rfl | (simp; done) | (simp <;> omega) | omega); done) | apply setRow_drew_is | (apply setRow_past_is; (case hn => (first | rfl | (simp; done) | (simp <;> omega) | omega))) | exact rfl))); (case hg => (repeat (first | assumption | (exact setRow_heap _ _ _ _ _ _ (by assumption)) | (refine heap_at _ _ _ ?_; (first | rfl | (simp; done) | (simp <;> omega) | omega); done) | refine heap_drew' _ _ _ ?_ | (apply heap_past; (case hn => (first | rfl | (simp; done) | (simp <;> omega) | omega)))))); (case hi => exact sz21r _ _); (case hold => simp [rv_size]))
  refine bodyPost_ret (v := .tuple #[.agg (rv [(j : Int)] 20 (upd F j V)), .int .i64 (vEff j false)]) ?_ rfl ⟨rfl, ?_⟩
  · (apply results_row_tmp; (case h => rfl); (case hp => rfl); (case hr => rfl); (case hg => (repeat (first | assumption | (exact setRow_heap _ _ _ _ _ _ (by assumption)) | (refine heap_at _ _ _ ?_; (first | rfl | (simp; done) | (simp <;> omega) | omega); done) | refine heap_drew' _ _ _ ?_ | (apply heap_past; (case hn => (first | rfl | (simp; done) | (simp <;> omega) | omega)))))); (case hu => exact Try.underlying39); (case hd => rfl); (case hi => exact sz21r _ _))
  · exact Up.setRow hup' (by omega) _
end Go.Proofs.Ythlacommhklkkaa
