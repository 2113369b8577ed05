/- The walk of the law RegsMaps: it returns true. -/
import Derived.Test.YthlacommhklkkaaR2
import Derived.Test.YthlacommhklkkaaRO
namespace Go.Proofs.Ythlacommhklkkaa
open Go.RowKit
open RV
attribute [local go_sem] rv1_get0 BM.and65535
/-- How many of the first n lines, from line -1 on, are told. -/
def told (x : Int) (n : Nat) : Int := if 64 ≤ x % 65536 ∧ x % 65536 - 62 ≤ n then 1 else 0
theorem told_rng (x : Int) (n : Nat) : 0 ≤ told x n ∧ told x n ≤ 1 := by unfold told; split <;> omega
theorem told_on (x : Int) (n : Nat) (h : vRas x ((n : Int) - 1) = true) : told x n + 1 = told x (n + 1) := by
  unfold vRas at h
  simp only [Bool.and_eq_true, decide_eq_true_eq, beq_iff_eq] at h
  unfold told
  rw [if_neg (by omega), if_pos (by omega)]; rfl
theorem told_off (x : Int) (n : Nat) (h : vRas x ((n : Int) - 1) = false) : told x n = told x (n + 1) := by
  unfold vRas at h
  simp only [Bool.and_eq_false_iff, decide_eq_false_iff_not, beq_eq_false_iff_ne] at h
  unfold told
  by_cases h1 : 64 ≤ x % 65536 ∧ x % 65536 - 62 ≤ n
  · rw [if_pos h1, if_pos (by omega)]
  · rw [if_neg h1, if_neg (by omega)]
set_option maxHeartbeats 8000000 in
theorem walk_regsMaps (c0 : List Value) (f0 : OP.FitsAll (List.replicate 21 true) c0) (w : World) :
    Calls Try.prog 3 #[.agg ⟨c0⟩] w fun e w' => e = .returned (.bool true) ∧ Below w.heap.size w w' := by
  obtain ⟨s, F, hc, hs, hF⟩ := open_rv1 20 c0 f0
  rw [hc]; clear hc f0 hs hF
  go_enter Try.func3, Try.ntmps3
  go_wp2_with (first | (apply load_is (ty := 24); (case ho => rfl); (case hgd => rfl); (case hx => rfl); (case hg => (repeat (first | assumption | (exact setRow_heap _ _ _ _ _ _ (by assumption)) | (refine heap_at _ _ _ ?_; (first | rfl | (simp; done) | (simp <;> omega) | omega); done) | refine heap_drew' _ _ _ ?_ | (apply heap_past; (case hn => (first | rfl | (simp; done) | (simp <;> omega) | omega)))))); (case hu => exact Try.underlying24); (case hd => rfl); (case hi => exact sz21 _ _)) | (apply store_is (ty := 24); (case ho => rfl); (case hgd => rfl); (case hx => rfl); (case hy => rfl); (case h1 => exact rv_one _ _ _); (case hw => (repeat (first | (refine setRow_at _ _ _ _ _ ?_; (first | rfl | (simp; done) | (simp <;> omega) | omega); done) | refine setRow_drew_is _ _ _ _ ?_ | (apply setRow_past_is; (case hn => (first | rfl | (simp; done) | (simp <;> omega) | omega))) | exact rfl))); (case hg => (repeat (first | assumption | (exact setRow_heap _ _ _ _ _ _ (by assumption)) | (refine heap_at _ _ _ ?_; (first | rfl | (simp; done) | (simp <;> omega) | omega); done) | refine heap_drew' _ _ _ ?_ | (apply heap_past; (case hn => (first | rfl | (simp; done) | (simp <;> omega) | omega)))))); (case hi => exact sz21 _ _); (case hold => simp [rv_size])))
  refine (map_any _ _ _).mono ?_; rintro e w1 ⟨rfl, hU1⟩
  have r1 : w1.heap[w.heap.size]? = some (.cells (rv [s] 20 F) 24 (0, 0)) := (hU1.heap (by simp)).trans (by (repeat (first | assumption | (exact setRow_heap _ _ _ _ _ _ (by assumption)) | (refine heap_at _ _ _ ?_; (first | rfl | (simp; done) | (simp <;> omega) | omega); done) | refine heap_drew' _ _ _ ?_ | (apply heap_past; (case hn => (first | rfl | (simp; done) | (simp <;> omega) | omega))))))
  have hV1 : Up w w1 := ((Up.refl w).alloc _).trans hU1
  clear hU1
  go_wp2_with (first | (apply load_is (ty := 24); (case ho => rfl); (case hgd => rfl); (case hx => rfl); (case hg => (repeat (first | assumption | (exact setRow_heap _ _ _ _ _ _ (by assumption)) | (refine heap_at _ _ _ ?_; (first | rfl | (simp; done) | (simp <;> omega) | omega); done) | refine heap_drew' _ _ _ ?_ | (apply heap_past; (case hn => (first | rfl | (simp; done) | (simp <;> omega) | omega)))))); (case hu => exact Try.underlying24); (case hd => rfl); (case hi => exact sz21 _ _)) | (apply store_is (ty := 24); (case ho => rfl); (case hgd => rfl); (case hx => rfl); (case hy => rfl); (case h1 => exact rv_one _ _ _); (case hw => (repeat (first | (refine setRow_at _ _ _ _ _ ?_; (first | rfl | (simp; done) | (simp <;> omega) | omega); done) | refine setRow_drew_is _ _ _ _ ?_ | (apply setRow_past_is; (case hn => (first | rfl | (simp; done) | (simp <;> omega) | omega))) | exact rfl))); (case hg => (repeat (first | assumption | (exact setRow_heap _ _ _ _ _ _ (by assumption)) | (refine heap_at _ _ _ ?_; (first | rfl | (simp; done) | (simp <;> omega) | omega); done) | refine heap_drew' _ _ _ ?_ | (apply heap_past; (case hn => (first | rfl | (simp; done) | (simp <;> omega) | omega)))))); (case hi => exact sz21 _ _); (case hold => simp [rv_size])))
  refine (far_any _ _ _).mono ?_; rintro e w2 ⟨rfl, hU2⟩
  have r2 : w2.heap[w.heap.size]? = some (.cells (rv [s] 20 F) 24 (0, 0)) := (hU2.heap (lt_of_block r1)).trans r1
  have hV2 : Up w w2 := hV1.trans hU2
  clear hU2 hV1 r1
  go_wp2_with (first | (apply load_is (ty := 24); (case ho => rfl); (case hgd => rfl); (case hx => rfl); (case hg => (repeat (first | assumption | (exact setRow_heap _ _ _ _ _ _ (by assumption)) | (refine heap_at _ _ _ ?_; (first | rfl | (simp; done) | (simp <;> omega) | omega); done) | refine heap_drew' _ _ _ ?_ | (apply heap_past; (case hn => (first | rfl | (simp; done) | (simp <;> omega) | omega)))))); (case hu => exact Try.underlying24); (case hd => rfl); (case hi => exact sz21 _ _)) | (apply store_is (ty := 24); (case ho => rfl); (case hgd => rfl); (case hx => rfl); (case hy => rfl); (case h1 => exact rv_one _ _ _); (case hw => (repeat (first | (refine setRow_at _ _ _ _ _ ?_; (first | rfl | (simp; done) | (simp <;> omega) | omega); done) | refine setRow_drew_is _ _ _ _ ?_ | (apply setRow_past_is; (case hn => (first | rfl | (simp; done) | (simp <;> omega) | omega))) | exact rfl))); (case hg => (repeat (first | assumption | (exact setRow_heap _ _ _ _ _ _ (by assumption)) | (refine heap_at _ _ _ ?_; (first | rfl | (simp; done) | (simp <;> omega) | omega); done) | refine heap_drew' _ _ _ ?_ | (apply heap_past; (case hn => (first | rfl | (simp; done) | (simp <;> omega) | omega)))))); (case hi => exact sz21 _ _); (case hold => simp [rv_size])))
  go_loopw [6, 7] (fun t l wr => ∃ n : Nat, n ≤ 301 ∧ l = .int .i64 ((n : Int) - 1) ∧ t = .int .i64 (told (F 6) n) ∧ Up w2 wr) (fun _ l _ => (300 - intOf l).toNat)
  case atStart => exact ⟨0, by omega, rfl, by unfold told; rw [if_neg (by omega)], Up.refl _⟩
  case round =>
    obtain ⟨n, hn, rfl, rfl, hUr⟩ := hrel
    have rr : wr.heap[w.heap.size]? = some (.cells (rv [s] 20 F) 24 (0, 0)) := (hUr.heap (lt_of_block r2)).trans r2
    by_cases hlt : n < 301
    · have hd : decide ((n : Int) - 1 < 300) = true := decide_eq_true (by omega)
      have hx0 : -9223372036854775808 ≤ (n : Int) - 1 := by omega
      have hx1 : (n : Int) - 1 ≤ 1000 := by omega
      have ht := told_rng (F 6) n
      have ht0 : 0 ≤ told (F 6) n := ht.1
      have ht1 : told (F 6) n ≤ 1 := ht.2
      clear ht
      cases hv : vRas (F 6) ((n : Int) - 1)
      · have E := Lib.hid (told_off _ _ hv)
        go_wp2_with (first | (apply load_is (ty := 24); (case ho => rfl); (case hgd => rfl); (case hx => rfl); (case hg => (repeat (first | assumption | (exact setRow_heap _ _ _ _ _ _ (by assumption)) | (refine heap_at _ _ _ ?_; (first | rfl | (simp; done) | (simp <;> omega) | omega); done) | refine heap_drew' _ _ _ ?_ | (apply heap_past; (case hn => (first | rfl | (simp; done) | (simp <;> omega) | omega)))))); (case hu => exact Try.underlying24); (case hd => rfl); (case hi => exact sz21 _ _)) | (apply store_is (ty := 24); (case ho => rfl); (case hgd => rfl); (case hx => rfl); (case hy => rfl); (case h1 => exact rv_one _ _ _); (case hw => (repeat (first | (refine setRow_at _ _ _ _ _ ?_; (first | rfl | (simp; done) | (simp <;> omega) | omega); done) | refine setRow_drew_is _ _ _ _ ?_ | (apply setRow_past_is; (case hn => (first | rfl | (simp; done) | (simp <;> omega) | omega))) | exact rfl))); (case hg => (repeat (first | assumption | (exact setRow_heap _ _ _ _ _ _ (by assumption)) | (refine heap_at _ _ _ ?_; (first | rfl | (simp; done) | (simp <;> omega) | omega); done) | refine heap_drew' _ _ _ ?_ | (apply heap_past; (case hn => (first | rfl | (simp; done) | (simp <;> omega) | omega)))))); (case hi => exact sz21 _ _); (case hold => simp [rv_size])))
        refine (raster_any _ _ _ _).mono ?_; rintro e w3 ⟨rfl, hU3⟩
        rw [hv]
        go_wp2_with (first | (apply load_is (ty := 24); (case ho => rfl); (case hgd => rfl); (case hx => rfl); (case hg => (repeat (first | assumption | (exact setRow_heap _ _ _ _ _ _ (by assumption)) | (refine heap_at _ _ _ ?_; (first | rfl | (simp; done) | (simp <;> omega) | omega); done) | refine heap_drew' _ _ _ ?_ | (apply heap_past; (case hn => (first | rfl | (simp; done) | (simp <;> omega) | omega)))))); (case hu => exact Try.underlying24); (case hd => rfl); (case hi => exact sz21 _ _)) | (apply store_is (ty := 24); (case ho => rfl); (case hgd => rfl); (case hx => rfl); (case hy => rfl); (case h1 => exact rv_one _ _ _); (case hw => (repeat (first | (refine setRow_at _ _ _ _ _ ?_; (first | rfl | (simp; done) | (simp <;> omega) | omega); done) | refine setRow_drew_is _ _ _ _ ?_ | (apply setRow_past_is; (case hn => (first | rfl | (simp; done) | (simp <;> omega) | omega))) | exact rfl))); (case hg => (repeat (first | assumption | (exact setRow_heap _ _ _ _ _ _ (by assumption)) | (refine heap_at _ _ _ ?_; (first | rfl | (simp; done) | (simp <;> omega) | omega); done) | refine heap_drew' _ _ _ ?_ | (apply heap_past; (case hn => (first | rfl | (simp; done) | (simp <;> omega) | omega)))))); (case hi => exact sz21 _ _); (case hold => simp [rv_size])))
        go_roundw
        case rel => exact ⟨n + 1, by omega, by go_num, by rw [E.out], hUr.trans hU3⟩
        case measure => simp [intOf]; omega
      · have E := Lib.hid (told_on _ _ hv)
        go_wp2_with (first | (apply load_is (ty := 24); (case ho => rfl); (case hgd => rfl); (case hx => rfl); (case hg => (repeat (first | assumption | (exact setRow_heap _ _ _ _ _ _ (by assumption)) | (refine heap_at _ _ _ ?_; (first | rfl | (simp; done) | (simp <;> omega) | omega); done) | refine heap_drew' _ _ _ ?_ | (apply heap_past; (case hn => (first | rfl | (simp; done) | (simp <;> omega) | omega)))))); (case hu => exact Try.underlying24); (case hd => rfl); (case hi => exact sz21 _ _)) | (apply store_is (ty := 24); (case ho => rfl); (case hgd => rfl); (case hx => rfl); (case hy => rfl); (case h1 => exact rv_one _ _ _); (case hw => (repeat (first | (refine setRow_at _ _ _ _ _ ?_; (first | rfl | (simp; done) | (simp <;> omega) | omega); done) | refine setRow_drew_is _ _ _ _ ?_ | (apply setRow_past_is; (case hn => (first | rfl | (simp; done) | (simp <;> omega) | omega))) | exact rfl))); (case hg => (repeat (first | assumption | (exact setRow_heap _ _ _ _ _ _ (by assumption)) | (refine heap_at _ _ _ ?_; (first | rfl | (simp; done) | (simp <;> omega) | omega); done) | refine heap_drew' _ _ _ ?_ | (apply heap_past; (case hn => (first | rfl | (simp; done) | (simp <;> omega) | omega)))))); (case hi => exact sz21 _ _); (case hold => simp [rv_size])))
        refine (raster_any _ _ _ _).mono ?_; rintro e w3 ⟨rfl, hU3⟩
        rw [hv]
        go_wp2_with (first | (apply load_is (ty := 24); (case ho => rfl); (case hgd => rfl); (case hx => rfl); (case hg => (repeat (first | assumption | (exact setRow_heap _ _ _ _ _ _ (by assumption)) | (refine heap_at _ _ _ ?_; (first | rfl | (simp; done) | (simp <;> omega) | omega); done) | refine heap_drew' _ _ _ ?_ | (apply heap_past; (case hn => (first | rfl | (simp; done) | (simp <;> omega) | omega)))))); (case hu => exact Try.underlying24); (case hd => rfl); (case hi => exact sz21 _ _)) | (apply store_is (ty := 24); (case ho => rfl); (case hgd => rfl); (case hx => rfl); (case hy => rfl); (case h1 => exact rv_one _ _ _); (case hw => (repeat (first | (refine setRow_at _ _ _ _ _ ?_; (first | rfl | (simp; done) | (simp <;> omega) | omega); done) | refine setRow_drew_is _ _ _ _ ?_ | (apply setRow_past_is; (case hn => (first | rfl | (simp; done) | (simp <;> omega) | omega))) | exact rfl))); (case hg => (repeat (first | assumption | (exact setRow_heap _ _ _ _ _ _ (by assumption)) | (refine heap_at _ _ _ ?_; (first | rfl | (simp; done) | (simp <;> omega) | omega); done) | refine heap_drew' _ _ _ ?_ | (apply heap_past; (case hn => (first | rfl | (simp; done) | (simp <;> omega) | omega)))))); (case hi => exact sz21 _ _); (case hold => simp [rv_size])))
        go_roundw
        case rel => exact ⟨n + 1, by omega, by go_num, by rw [E.out], hUr.trans hU3⟩
        case measure => simp [intOf]; omega
    · obtain rfl : n = 301 := by omega
      have z7 : wr.cell? ⟨w.heap.size, 7, none⟩ = some (.int .i64 (F 6)) := (cell_of_row _ _ _ _ _ _ rr).trans (rv1_get s 20 6 F (by omega))
      have hfin : Up w wr := hV2.trans hUr
      have hW : vMapW (F 9) = 32 ∨ vMapW (F 9) = 64 ∨ vMapW (F 9) = 128 := by unfold vMapW; split; exact .inl rfl; split; exact .inr (.inl rfl); exact .inr (.inr rfl)
      have hH : vMapH (F 9) = 32 ∨ vMapH (F 9) = 64 := by unfold vMapH; rcases (BM.vBit_rng (F 9) 6).2 with h | h <;> rw [h] <;> decide
      have hS : vFar (F 5) = 1 ∨ vFar (F 5) = 32 ∨ vFar (F 5) = 64 ∨ vFar (F 5) = 128 := by unfold vFar; split; exact .inl rfl; split; exact .inr (.inl rfl); split; exact .inr (.inr (.inl rfl)); exact .inr (.inr (.inr rfl))
      have hT : (decide (64 ≤ F 6 % 65536) = true ∧ decide (F 6 % 65536 < 364) = true ∧ told (F 6) 301 = 1) ∨ (decide (64 ≤ F 6 % 65536) = true ∧ decide (F 6 % 65536 < 364) = false ∧ told (F 6) 301 = 0) ∨ (decide (64 ≤ F 6 % 65536) = false ∧ told (F 6) 301 = 0) := by
        unfold told
        by_cases h1 : 64 ≤ F 6 % 65536
        · by_cases h2 : F 6 % 65536 < 364
          · exact .inl ⟨decide_eq_true h1, decide_eq_true h2, if_pos (by omega)⟩
          · exact .inr (.inl ⟨decide_eq_true h1, decide_eq_false h2, if_neg (by omega)⟩)
        · exact .inr (.inr ⟨decide_eq_false h1, if_neg (by omega)⟩)
      clear hn hlt hV2 hUr r2 rr
      generalize vMapW (F 9) = vw at *
      generalize vMapH (F 9) = vh at *
      generalize vFar (F 5) = vs at *
      generalize told (F 6) 301 = vt at *
      have h0 : 0 ≤ F 6 % 65536 := by omega
      have h1 : F 6 % 65536 ≤ 65535 := by omega
      rcases hW with rfl | rfl | rfl <;> rcases hH with rfl | rfl <;> rcases hS with rfl | rfl | rfl | rfl <;> rcases hT with ⟨t0, t1, rfl⟩ | ⟨t0, t1, rfl⟩ | ⟨t0, rfl⟩
      all_goals (go_wp2_with fail; go_ret; exact ⟨rfl, hfin⟩)
end Go.Proofs.Ythlacommhklkkaa
