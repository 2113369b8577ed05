/- Contract of regs.Valid. -/
import Derived.Test.YthlacommhklkkaaR
import Derived.Lib.Hide
namespace Go.Proofs.Ythlacommhklkkaa
open Go.RowKit
open RV
attribute [local go_sem] rv1_get0 rv0_get idx20
def okTo (F : Nat → Int) (n : Nat) : Bool := (List.range n).all fun j => !(bits .andNot .i64 (F j) (MK j) != 0)
theorem okTo_succ (F : Nat → Int) (n : Nat) : okTo F (n + 1) = (okTo F n && !(bits .andNot .i64 (F n) (MK n) != 0)) := by
  unfold okTo
  rw [List.range_succ, List.all_append]
  simp
theorem okTo_bad (F : Nat → Int) (n : Nat) (h : (bits .andNot .i64 (F n) (MK n) != 0) = true) : ∀ m, n < m → okTo F m = false
  | 0, hm => by omega
  | m + 1, hm => by
    rw [okTo_succ]
    by_cases e : n = m
    · subst e; rw [h]; simp
    · rw [okTo_bad F n h m (by omega)]; rfl
def vOk (s : Int) (F : Nat → Int) : Bool := okTo F 20 && (decide (0 ≤ s) && decide (s ≤ 31))
set_option maxHeartbeats 2000000 in
theorem valid_any (s : Int) (F : Nat → Int) (w : World) : Calls Try.prog 13 #[.agg (rv [s] 20 F)] w fun e w' => e = .returned (.bool (vOk s F)) ∧ Up w w' := by
  obtain ⟨R, hR⟩ : ∃ x, vOk s F = x := ⟨_, rfl⟩
  have HR := Lib.hid hR
  rw [hR]; clear hR
  go_enter Try.func13, Try.ntmps13
  go_wp2_with (first | (apply load_is (ty := 24); (case ho => rfl); (case hgd => rfl); (case hx => rfl); (case hg => (repeat (first | assumption | (exact setRow_heap _ _ _ _ _ _ (by assumption)) | (refine heap_at _ _ _ ?_; (first | rfl | (simp; done) | (simp <;> omega) | omega); done) | refine heap_drew' _ _ _ ?_ | (apply heap_past; (case hn => (first | rfl | (simp; done) | (simp <;> omega) | omega)))))); (case hu => exact Try.underlying24); (case hd => rfl); (case hi => exact sz21 _ _)) | (apply store_is (ty := 22); (case ho => rfl); (case hgd => rfl); (case hx => rfl); (case hy => rfl); (case h1 => exact rv_one _ _ _); (case hw => (repeat (first | (refine setRow_at _ _ _ _ _ ?_; (first | rfl | (simp; done) | (simp <;> omega) | omega); done) | apply setRow_drew_is | (apply setRow_past_is; (case hn => (first | rfl | (simp; done) | (simp <;> omega) | omega))) | exact rfl))); (case hg => (repeat (first | assumption | (exact setRow_heap _ _ _ _ _ _ (by assumption)) | (refine heap_at _ _ _ ?_; (first | rfl | (simp; done) | (simp <;> omega) | omega); done) | refine heap_drew' _ _ _ ?_ | (apply heap_past; (case hn => (first | rfl | (simp; done) | (simp <;> omega) | omega)))))); (case hi => exact sz20 _); (case hold => simp [rv_size])) | (apply load_tail (ty := 22); (case ho => rfl); (case hgd => rfl); (case hx => rfl); (case hg => (repeat (first | assumption | (exact setRow_heap _ _ _ _ _ _ (by assumption)) | (refine heap_at _ _ _ ?_; (first | rfl | (simp; done) | (simp <;> omega) | omega); done) | refine heap_drew' _ _ _ ?_ | (apply heap_past; (case hn => (first | rfl | (simp; done) | (simp <;> omega) | omega)))))); (case hk => rfl); (case hu => exact Try.underlying22); (case hd => rfl); (case hi => exact sz20 _)))
  refine (masks_any _).mono ?_; rintro e w1 ⟨rfl, hU1⟩
  have r1 : w1.heap[w.heap.size]? = some (.cells (rv [s] 20 F) 24 (0, 0)) := (hU1.heap (by simp)).trans (by (repeat (first | assumption | (exact setRow_heap _ _ _ _ _ _ (by assumption)) | (refine heap_at _ _ _ ?_; (first | rfl | (simp; done) | (simp <;> omega) | omega); done) | refine heap_drew' _ _ _ ?_ | (apply heap_past; (case hn => (first | rfl | (simp; done) | (simp <;> omega) | omega))))))
  have HU := Lib.hid (((Up.refl w).alloc _).trans hU1)
  have l1 : w.heap.size < w1.heap.size := lt_of_block r1
  have c1 : w1.cell? ⟨w.heap.size, 0, none⟩ = some (.int .i64 s) := (cell_of_row _ _ _ _ _ _ r1).trans (rv1_get0 _ _ _)
  clear hU1
  go_wp2_with (first | (apply load_is (ty := 24); (case ho => rfl); (case hgd => rfl); (case hx => rfl); (case hg => (repeat (first | assumption | (exact setRow_heap _ _ _ _ _ _ (by assumption)) | (refine heap_at _ _ _ ?_; (first | rfl | (simp; done) | (simp <;> omega) | omega); done) | refine heap_drew' _ _ _ ?_ | (apply heap_past; (case hn => (first | rfl | (simp; done) | (simp <;> omega) | omega)))))); (case hu => exact Try.underlying24); (case hd => rfl); (case hi => exact sz21 _ _)) | (apply store_is (ty := 22); (case ho => rfl); (case hgd => rfl); (case hx => rfl); (case hy => rfl); (case h1 => exact rv_one _ _ _); (case hw => (repeat (first | (refine setRow_at _ _ _ _ _ ?_; (first | rfl | (simp; done) | (simp <;> omega) | omega); done) | apply setRow_drew_is | (apply setRow_past_is; (case hn => (first | rfl | (simp; done) | (simp <;> omega) | omega))) | exact rfl))); (case hg => (repeat (first | assumption | (exact setRow_heap _ _ _ _ _ _ (by assumption)) | (refine heap_at _ _ _ ?_; (first | rfl | (simp; done) | (simp <;> omega) | omega); done) | refine heap_drew' _ _ _ ?_ | (apply heap_past; (case hn => (first | rfl | (simp; done) | (simp <;> omega) | omega)))))); (case hi => exact sz20 _); (case hold => simp [rv_size])) | (apply load_tail (ty := 22); (case ho => rfl); (case hgd => rfl); (case hx => rfl); (case hg => (repeat (first | assumption | (exact setRow_heap _ _ _ _ _ _ (by assumption)) | (refine heap_at _ _ _ ?_; (first | rfl | (simp; done) | (simp <;> omega) | omega); done) | refine heap_drew' _ _ _ ?_ | (apply heap_past; (case hn => (first | rfl | (simp; done) | (simp <;> omega) | omega)))))); (case hk => rfl); (case hu => exact Try.underlying22); (case hd => rfl); (case hi => exact sz20 _)))
  clear r1
  go_loop [9, 4, 5] (fun i k x => ∃ n : Nat, n ≤ 20 ∧ i = .int .i64 n ∧ okTo F n = true) (fun i _ _ => 20 - (intOf i).toNat)
  case atStart => exact ⟨0, by omega, rfl, rfl⟩
  case round =>
    obtain ⟨n, hn, rfl, hok⟩ := hrel
    have HOK := Lib.hid hok
    clear hok
    by_cases hlt : n < 20
    · have n0 : (0 : Int) ≤ (n : Int) := by omega
      have n1 : (n : Int) < 20 := by omega
      cases hb : bits .andNot .i64 (F n) (MK n) != 0
      · go_wp2_with fail
        go_round
        case rel => exact ⟨n + 1, by omega, by go_num, by rw [okTo_succ, HOK.out, hb]; rfl⟩
        case measure => simp [intOf]; omega
      · go_wp2_with fail
        go_ret
        exact ⟨ret_bool (by rw [← HR.out]; unfold vOk; rw [okTo_bad F n hb 20 hlt]; rfl), HU.out.alloc _⟩
    · obtain rfl : n = 20 := by omega
      have hRR : (decide (0 ≤ s) && decide (s ≤ 31)) = R := by rw [← HR.out]; unfold vOk; rw [HOK.out]; rfl
      cases d0 : decide (0 ≤ s)
      · rw [d0] at hRR
        have HRR := Lib.hid hRR
        clear hRR
        go_wp2_with fail
        go_ret
        exact ⟨ret_bool HRR.out, HU.out.alloc _⟩
      · rw [d0] at hRR
        have HRR := Lib.hid hRR
        clear hRR
        go_wp2_with fail
        go_ret
        exact ⟨ret_bool (by rw [← HRR.out]; rfl), HU.out.alloc _⟩
end Go.Proofs.Ythlacommhklkkaa
