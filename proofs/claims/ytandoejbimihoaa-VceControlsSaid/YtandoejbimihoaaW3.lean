/- The walk of the law VceControls: it returns true. -/
import Derived.Test.YtandoejbimihoaaM
import Derived.Test.YtandoejbimihoaaE
import Derived.Test.YtandoejbimihoaaLD
import Derived.Lib.Hide
namespace Go.Proofs.Ytandoejbimihoaa
open Go.RowKit
open RV
theorem write_0up (ct a : Int) (F : Nat → Int) (b : Int) (w : World) : Calls Try.prog 9 #[.agg (rv [ct, a] 512 F), .int .i64 0, .int .i64 b] w fun e w' => e = .returned (.agg (rv [b % 256, a] 512 F)) ∧ Up w w' := by
  obtain ⟨j, hj⟩ := Int.eq_ofNat_of_zero_le (show 0 ≤ a % 512 by omega)
  exact (write_0 ct a F b j hj w).mono fun _ _ h => up_of_eq h (((Up.refl w).alloc _).alloc _)
theorem colour_upj (ct a : Int) (F : Nat → Int) (k : Int) (j : Nat) (hk : k % 512 = (j : Int)) (w : World) : Calls Try.prog 7 #[.agg (rv [ct, a] 512 F), .int .i64 k] w fun e w' => e = .returned (.int .i64 (vCol ct (F j % 512))) ∧ Up w w' :=
  (colour_at ct a F k j hk w).mono fun _ _ h => up_of_eq h ((Up.refl w).alloc _)
theorem dot_up (ct a : Int) (F : Nat → Int) (w : World) : Calls Try.prog 11 #[.agg (rv [ct, a] 512 F)] w fun e w' => e = .returned (.int .i64 (vDot ct)) ∧ Up w w' :=
  (dot_any ct a F w).mono fun _ _ h => up_of_eq h ((Up.refl w).alloc _)
theorem lines_up (ct a : Int) (F : Nat → Int) (w : World) : Calls Try.prog 12 #[.agg (rv [ct, a] 512 F)] w fun e w' => e = .returned (.int .i64 (262 + BM.vBit ct 2)) ∧ Up w w' :=
  (lines_any ct a F w).mono fun _ _ h => up_of_eq h ((Up.refl w).alloc _)
theorem and_128 (c : Int) : bits .and .i64 c 128 = c / 128 % 2 * 128 := by
  refine BM.ext _ _ (BM.rng _ _ _) (by omega) fun i hi => ?_
  rw [BM.bt_and _ _ _ hi, show (128 : Int) = 2 ^ 7 from rfl, BM.bt_pow]
  have hb : BM.bt c 7 = (c / 2 ^ 7 % 2 == 1) := rfl
  by_cases h : i = 7
  · subst h
    rcases (show c / 2 ^ 7 % 2 = 0 ∨ c / 2 ^ 7 % 2 = 1 by omega) with h | h
    · rw [hb, h]; decide
    · rw [hb, h]; decide
  · rcases (show c / 2 ^ 7 % 2 = 0 ∨ c / 2 ^ 7 % 2 = 1 by omega) with h' | h'
    · rw [h']; simp [h, BM.bt]
    · rw [h', Int.one_mul, BM.bt_pow]; simp [h]
attribute [local go_sem high] eq512_refl
attribute [local go_sem] rv2_get0 rv2_get1 BM.and3 BM.and1 zv514
set_option maxHeartbeats 8000000 in
set_option maxRecDepth 20000 in
theorem walk_vceControls (w : World) (c : Int) (_h1 : -9223372036854775808 ≤ c ∧ c ≤ 9223372036854775807) (a : Option Addr) (len cap : Nat) (Z : Nat → Int) (hZ : OP.IsRow w a len cap Z) (k : Int) (_h2 : -9223372036854775808 ≤ k ∧ k ≤ 9223372036854775807) :
    Calls Try.prog 5 #[.int .i64 c, .slice a len cap, .int .i64 k] w fun e w' => e = .returned (.bool true) ∧ Below w.heap.size w w' := by
  obtain ⟨j, hk⟩ := Int.eq_ofNat_of_zero_le (show 0 ≤ k % 512 by omega)
  obtain ⟨F, hF⟩ : ∃ F, madeF Z (min len 512) = F := ⟨_, rfl⟩
  have MA := Lib.hid (show ∀ w', Up w w' → Calls Try.prog 8 #[.int .i64 0, .int .i64 0, .slice a len cap] w' (fun e w'' => e = .returned (.agg (rv [0, 0] 512 F)) ∧ Up w' w'') from fun w' hu => by
    have h := made_any 0 0 a len cap Z w' (hZ.up hu)
    rw [hF] at h; exact h)
  clear hF hZ _h1 _h2
  have hdot : vDot (c % 256) = vDot c := by unfold vDot; rw [show c % 256 % 4 = c % 4 by omega]
  have hline : BM.vBit (c % 256) 2 = c / 4 % 2 := by
    unfold BM.vBit; rw [if_pos (by omega)]
    show c % 256 / 4 % 2 = _
    omega
  have l0 : 0 ≤ c / 4 % 2 := by omega
  have l1 : c / 4 % 2 ≤ 1 := by omega
  have h7 : (BM.vBit (c % 256) 7 = 0 ∧ bits .and .i64 c 128 = 0) ∨ (BM.vBit (c % 256) 7 = 1 ∧ bits .and .i64 c 128 = 128) := by
    have e : BM.vBit (c % 256) 7 = c / 128 % 2 := by
      unfold BM.vBit; rw [if_pos (by omega)]
      show c % 256 / 128 % 2 = _
      omega
    rw [e, and_128]
    rcases (show c / 128 % 2 = 0 ∨ c / 128 % 2 = 1 by omega) with h | h
    · left; rw [h]; decide
    · right; rw [h]; decide
  have hix : ∀ w, (Instr.index 34 (.agg #[.int .i64 4, .int .i64 3, .int .i64 2, .int .i64 2]) (.int .i64 (c % 4))).run Try.prog w = .ok (.int .i64 (vDot c)) w := by
    intro w
    unfold vDot
    rcases (show c % 4 = 0 ∨ c % 4 = 1 ∨ c % 4 = 2 ∨ c % 4 = 3 by omega) with h | h | h | h <;> rw [h] <;> kernel_rfl
  go_enter Try.func5, Try.ntmps5
  go_wp2_with (first | (apply load_is (ty := 24); (case ho => rfl); (case hgd => rfl); (case hx => rfl); (case hg => (repeat (first | assumption | (exact setRow_heap _ _ _ _ _ _ (by assumption)) | (refine heap_at _ _ _ ?_; (first | rfl | (simp; done) | (simp <;> omega) | omega); done) | refine heap_drew' _ _ _ ?_ | (apply heap_past; (case hn => (first | rfl | (simp; done) | (simp <;> omega) | omega)))))); (case hu => exact Try.underlying24); (case hd => rfl); (case hi => exact sz514 _ _ _)) | (apply store_is (ty := 24); (case ho => rfl); (case hgd => rfl); (case hx => rfl); (case hy => rfl); (case h1 => exact rv_one _ _ _); (case hw => (repeat (first | (refine setRow_at _ _ _ _ _ ?_; (first | rfl | (simp; done) | (simp <;> omega) | omega); done) | apply setRow_drew_is | (apply setRow_past_is; (case hn => (first | rfl | (simp; done) | (simp <;> omega) | omega))) | exact rfl))); (case hg => (repeat (first | assumption | (exact setRow_heap _ _ _ _ _ _ (by assumption)) | (refine heap_at _ _ _ ?_; (first | rfl | (simp; done) | (simp <;> omega) | omega); done) | refine heap_drew' _ _ _ ?_ | (apply heap_past; (case hn => (first | rfl | (simp; done) | (simp <;> omega) | omega)))))); (case hi => exact sz514 _ _ _); (case hold => simp [rv_size])) | (apply load_tail (ty := 22); (case ho => rfl); (case hgd => rfl); (case hx => rfl); (case hg => (repeat (first | assumption | (exact setRow_heap _ _ _ _ _ _ (by assumption)) | (refine heap_at _ _ _ ?_; (first | rfl | (simp; done) | (simp <;> omega) | omega); done) | refine heap_drew' _ _ _ ?_ | (apply heap_past; (case hn => (first | rfl | (simp; done) | (simp <;> omega) | omega)))))); (case hk => rfl); (case hu => exact Try.underlying22); (case hd => rfl); (case hi => exact sz512 _)))
  refine (MA.out _ (Up.refl _)).mono ?_; rintro e w1 ⟨rfl, hU1⟩
  have z1 : w.heap.size ≤ w1.heap.size := by have := hU1.size; first | omega | (simp at this; omega)
  have hV1 : Up w w1 := Up.trans (by (repeat (first | exact Up.refl _ | assumption | refine Up.drew ?_ | refine Up.alloc ?_ _ | (refine Up.setRow ?_ (by first | omega | (simp <;> omega)) _)))) hU1
  clear hU1
  go_wp2_with (first | (apply load_is (ty := 24); (case ho => rfl); (case hgd => rfl); (case hx => rfl); (case hg => (repeat (first | assumption | (exact setRow_heap _ _ _ _ _ _ (by assumption)) | (refine heap_at _ _ _ ?_; (first | rfl | (simp; done) | (simp <;> omega) | omega); done) | refine heap_drew' _ _ _ ?_ | (apply heap_past; (case hn => (first | rfl | (simp; done) | (simp <;> omega) | omega)))))); (case hu => exact Try.underlying24); (case hd => rfl); (case hi => exact sz514 _ _ _)) | (apply store_is (ty := 24); (case ho => rfl); (case hgd => rfl); (case hx => rfl); (case hy => rfl); (case h1 => exact rv_one _ _ _); (case hw => (repeat (first | (refine setRow_at _ _ _ _ _ ?_; (first | rfl | (simp; done) | (simp <;> omega) | omega); done) | apply setRow_drew_is | (apply setRow_past_is; (case hn => (first | rfl | (simp; done) | (simp <;> omega) | omega))) | exact rfl))); (case hg => (repeat (first | assumption | (exact setRow_heap _ _ _ _ _ _ (by assumption)) | (refine heap_at _ _ _ ?_; (first | rfl | (simp; done) | (simp <;> omega) | omega); done) | refine heap_drew' _ _ _ ?_ | (apply heap_past; (case hn => (first | rfl | (simp; done) | (simp <;> omega) | omega)))))); (case hi => exact sz514 _ _ _); (case hold => simp [rv_size])) | (apply load_tail (ty := 22); (case ho => rfl); (case hgd => rfl); (case hx => rfl); (case hg => (repeat (first | assumption | (exact setRow_heap _ _ _ _ _ _ (by assumption)) | (refine heap_at _ _ _ ?_; (first | rfl | (simp; done) | (simp <;> omega) | omega); done) | refine heap_drew' _ _ _ ?_ | (apply heap_past; (case hn => (first | rfl | (simp; done) | (simp <;> omega) | omega)))))); (case hk => rfl); (case hu => exact Try.underlying22); (case hd => rfl); (case hi => exact sz512 _)))
  refine (write_0up _ _ _ _ _).mono ?_; rintro e w2 ⟨rfl, hU2⟩
  have z2 : w1.heap.size ≤ w2.heap.size := by have := hU2.size; first | omega | (simp at this; omega)
  have hV2 : Up w w2 := Up.trans (by (repeat (first | exact Up.refl _ | assumption | refine Up.drew ?_ | refine Up.alloc ?_ _ | (refine Up.setRow ?_ (by first | omega | (simp <;> omega)) _)))) hU2
  clear hU2
  clear hV1
  go_wp2_with (first | (apply load_is (ty := 24); (case ho => rfl); (case hgd => rfl); (case hx => rfl); (case hg => (repeat (first | assumption | (exact setRow_heap _ _ _ _ _ _ (by assumption)) | (refine heap_at _ _ _ ?_; (first | rfl | (simp; done) | (simp <;> omega) | omega); done) | refine heap_drew' _ _ _ ?_ | (apply heap_past; (case hn => (first | rfl | (simp; done) | (simp <;> omega) | omega)))))); (case hu => exact Try.underlying24); (case hd => rfl); (case hi => exact sz514 _ _ _)) | (apply store_is (ty := 24); (case ho => rfl); (case hgd => rfl); (case hx => rfl); (case hy => rfl); (case h1 => exact rv_one _ _ _); (case hw => (repeat (first | (refine setRow_at _ _ _ _ _ ?_; (first | rfl | (simp; done) | (simp <;> omega) | omega); done) | apply setRow_drew_is | (apply setRow_past_is; (case hn => (first | rfl | (simp; done) | (simp <;> omega) | omega))) | exact rfl))); (case hg => (repeat (first | assumption | (exact setRow_heap _ _ _ _ _ _ (by assumption)) | (refine heap_at _ _ _ ?_; (first | rfl | (simp; done) | (simp <;> omega) | omega); done) | refine heap_drew' _ _ _ ?_ | (apply heap_past; (case hn => (first | rfl | (simp; done) | (simp <;> omega) | omega)))))); (case hi => exact sz514 _ _ _); (case hold => simp [rv_size])) | (apply load_tail (ty := 22); (case ho => rfl); (case hgd => rfl); (case hx => rfl); (case hg => (repeat (first | assumption | (exact setRow_heap _ _ _ _ _ _ (by assumption)) | (refine heap_at _ _ _ ?_; (first | rfl | (simp; done) | (simp <;> omega) | omega); done) | refine heap_drew' _ _ _ ?_ | (apply heap_past; (case hn => (first | rfl | (simp; done) | (simp <;> omega) | omega)))))); (case hk => rfl); (case hu => exact Try.underlying22); (case hd => rfl); (case hi => exact sz512 _)))
  refine (MA.out _ (by first | exact hV2.alloc _ | exact (hV2.alloc _).alloc _)).mono ?_; rintro e w3 ⟨rfl, hU3⟩
  have q3_0 : w3.heap[w2.heap.size]? = some (.cells (rv [c % 256, 0] 512 F) 24 (0, 0)) := (hU3.heap (by first | omega | (simp <;> omega))).trans (by (repeat (first | assumption | (exact setRow_heap _ _ _ _ _ _ (by assumption)) | (refine heap_at _ _ _ ?_; (first | rfl | (simp; done) | (simp <;> omega) | omega); done) | refine heap_drew' _ _ _ ?_ | (apply heap_past; (case hn => (first | rfl | (simp; done) | (simp <;> omega) | omega))))))
  have z3 : w2.heap.size ≤ w3.heap.size := by have := hU3.size; first | omega | (simp at this; omega)
  have l3_0 : w2.heap.size < w3.heap.size := lt_of_block q3_0
  have hV3 : Up w w3 := Up.trans (by (repeat (first | exact Up.refl _ | assumption | refine Up.drew ?_ | refine Up.alloc ?_ _ | (refine Up.setRow ?_ (by first | omega | (simp <;> omega)) _)))) hU3
  clear hU3
  clear hV2
  go_wp2_with (first | (apply load_is (ty := 24); (case ho => rfl); (case hgd => rfl); (case hx => rfl); (case hg => (repeat (first | assumption | (exact setRow_heap _ _ _ _ _ _ (by assumption)) | (refine heap_at _ _ _ ?_; (first | rfl | (simp; done) | (simp <;> omega) | omega); done) | refine heap_drew' _ _ _ ?_ | (apply heap_past; (case hn => (first | rfl | (simp; done) | (simp <;> omega) | omega)))))); (case hu => exact Try.underlying24); (case hd => rfl); (case hi => exact sz514 _ _ _)) | (apply store_is (ty := 24); (case ho => rfl); (case hgd => rfl); (case hx => rfl); (case hy => rfl); (case h1 => exact rv_one _ _ _); (case hw => (repeat (first | (refine setRow_at _ _ _ _ _ ?_; (first | rfl | (simp; done) | (simp <;> omega) | omega); done) | apply setRow_drew_is | (apply setRow_past_is; (case hn => (first | rfl | (simp; done) | (simp <;> omega) | omega))) | exact rfl))); (case hg => (repeat (first | assumption | (exact setRow_heap _ _ _ _ _ _ (by assumption)) | (refine heap_at _ _ _ ?_; (first | rfl | (simp; done) | (simp <;> omega) | omega); done) | refine heap_drew' _ _ _ ?_ | (apply heap_past; (case hn => (first | rfl | (simp; done) | (simp <;> omega) | omega)))))); (case hi => exact sz514 _ _ _); (case hold => simp [rv_size])) | (apply load_tail (ty := 22); (case ho => rfl); (case hgd => rfl); (case hx => rfl); (case hg => (repeat (first | assumption | (exact setRow_heap _ _ _ _ _ _ (by assumption)) | (refine heap_at _ _ _ ?_; (first | rfl | (simp; done) | (simp <;> omega) | omega); done) | refine heap_drew' _ _ _ ?_ | (apply heap_past; (case hn => (first | rfl | (simp; done) | (simp <;> omega) | omega)))))); (case hk => rfl); (case hu => exact Try.underlying22); (case hd => rfl); (case hi => exact sz512 _)))
  refine (dot_up _ _ _ _).mono ?_; rintro e w4 ⟨rfl, hU4⟩
  have q4_0 : w4.heap[w2.heap.size]? = some (.cells (rv [c % 256, 0] 512 F) 24 (0, 0)) := (hU4.heap (by first | omega | (simp <;> omega))).trans (by (repeat (first | assumption | (exact setRow_heap _ _ _ _ _ _ (by assumption)) | (refine heap_at _ _ _ ?_; (first | rfl | (simp; done) | (simp <;> omega) | omega); done) | refine heap_drew' _ _ _ ?_ | (apply heap_past; (case hn => (first | rfl | (simp; done) | (simp <;> omega) | omega))))))
  have q4_1 : w4.heap[w3.heap.size]? = some (.cells (rv [0, 0] 512 F) 24 (0, 0)) := (hU4.heap (by first | omega | (simp <;> omega))).trans (by (repeat (first | assumption | (exact setRow_heap _ _ _ _ _ _ (by assumption)) | (refine heap_at _ _ _ ?_; (first | rfl | (simp; done) | (simp <;> omega) | omega); done) | refine heap_drew' _ _ _ ?_ | (apply heap_past; (case hn => (first | rfl | (simp; done) | (simp <;> omega) | omega))))))
  have z4 : w3.heap.size ≤ w4.heap.size := by have := hU4.size; first | omega | (simp at this; omega)
  have l4_0 : w2.heap.size < w4.heap.size := lt_of_block q4_0
  have l4_1 : w3.heap.size < w4.heap.size := lt_of_block q4_1
  have hV4 : Up w w4 := Up.trans (by (repeat (first | exact Up.refl _ | assumption | refine Up.drew ?_ | refine Up.alloc ?_ _ | (refine Up.setRow ?_ (by first | omega | (simp <;> omega)) _)))) hU4
  clear hU4
  clear hV3
  clear q3_0
  rw [hdot]
  go_wp2_with (first | (apply load_is (ty := 24); (case ho => rfl); (case hgd => rfl); (case hx => rfl); (case hg => (repeat (first | assumption | (exact setRow_heap _ _ _ _ _ _ (by assumption)) | (refine heap_at _ _ _ ?_; (first | rfl | (simp; done) | (simp <;> omega) | omega); done) | refine heap_drew' _ _ _ ?_ | (apply heap_past; (case hn => (first | rfl | (simp; done) | (simp <;> omega) | omega)))))); (case hu => exact Try.underlying24); (case hd => rfl); (case hi => exact sz514 _ _ _)) | (apply store_is (ty := 24); (case ho => rfl); (case hgd => rfl); (case hx => rfl); (case hy => rfl); (case h1 => exact rv_one _ _ _); (case hw => (repeat (first | (refine setRow_at _ _ _ _ _ ?_; (first | rfl | (simp; done) | (simp <;> omega) | omega); done) | apply setRow_drew_is | (apply setRow_past_is; (case hn => (first | rfl | (simp; done) | (simp <;> omega) | omega))) | exact rfl))); (case hg => (repeat (first | assumption | (exact setRow_heap _ _ _ _ _ _ (by assumption)) | (refine heap_at _ _ _ ?_; (first | rfl | (simp; done) | (simp <;> omega) | omega); done) | refine heap_drew' _ _ _ ?_ | (apply heap_past; (case hn => (first | rfl | (simp; done) | (simp <;> omega) | omega)))))); (case hi => exact sz514 _ _ _); (case hold => simp [rv_size])) | (apply load_tail (ty := 22); (case ho => rfl); (case hgd => rfl); (case hx => rfl); (case hg => (repeat (first | assumption | (exact setRow_heap _ _ _ _ _ _ (by assumption)) | (refine heap_at _ _ _ ?_; (first | rfl | (simp; done) | (simp <;> omega) | omega); done) | refine heap_drew' _ _ _ ?_ | (apply heap_past; (case hn => (first | rfl | (simp; done) | (simp <;> omega) | omega)))))); (case hk => rfl); (case hu => exact Try.underlying22); (case hd => rfl); (case hi => exact sz512 _)))
  refine (lines_up _ _ _ _).mono ?_; rintro e w5 ⟨rfl, hU5⟩
  have q5_0 : w5.heap[w2.heap.size]? = some (.cells (rv [c % 256, 0] 512 F) 24 (0, 0)) := (hU5.heap (by first | omega | (simp <;> omega))).trans (by (repeat (first | assumption | (exact setRow_heap _ _ _ _ _ _ (by assumption)) | (refine heap_at _ _ _ ?_; (first | rfl | (simp; done) | (simp <;> omega) | omega); done) | refine heap_drew' _ _ _ ?_ | (apply heap_past; (case hn => (first | rfl | (simp; done) | (simp <;> omega) | omega))))))
  have q5_1 : w5.heap[w3.heap.size]? = some (.cells (rv [0, 0] 512 F) 24 (0, 0)) := (hU5.heap (by first | omega | (simp <;> omega))).trans (by (repeat (first | assumption | (exact setRow_heap _ _ _ _ _ _ (by assumption)) | (refine heap_at _ _ _ ?_; (first | rfl | (simp; done) | (simp <;> omega) | omega); done) | refine heap_drew' _ _ _ ?_ | (apply heap_past; (case hn => (first | rfl | (simp; done) | (simp <;> omega) | omega))))))
  have z5 : w4.heap.size ≤ w5.heap.size := by have := hU5.size; first | omega | (simp at this; omega)
  have l5_0 : w2.heap.size < w5.heap.size := lt_of_block q5_0
  have l5_1 : w3.heap.size < w5.heap.size := lt_of_block q5_1
  have hV5 : Up w w5 := Up.trans (by (repeat (first | exact Up.refl _ | assumption | refine Up.drew ?_ | refine Up.alloc ?_ _ | (refine Up.setRow ?_ (by first | omega | (simp <;> omega)) _)))) hU5
  clear hU5
  clear hV4
  clear q4_0
  clear q4_1
  rw [hline]
  go_wp2_with (first | (apply load_is (ty := 24); (case ho => rfl); (case hgd => rfl); (case hx => rfl); (case hg => (repeat (first | assumption | (exact setRow_heap _ _ _ _ _ _ (by assumption)) | (refine heap_at _ _ _ ?_; (first | rfl | (simp; done) | (simp <;> omega) | omega); done) | refine heap_drew' _ _ _ ?_ | (apply heap_past; (case hn => (first | rfl | (simp; done) | (simp <;> omega) | omega)))))); (case hu => exact Try.underlying24); (case hd => rfl); (case hi => exact sz514 _ _ _)) | (apply store_is (ty := 24); (case ho => rfl); (case hgd => rfl); (case hx => rfl); (case hy => rfl); (case h1 => exact rv_one _ _ _); (case hw => (repeat (first | (refine setRow_at _ _ _ _ _ ?_; (first | rfl | (simp; done) | (simp <;> omega) | omega); done) | apply setRow_drew_is | (apply setRow_past_is; (case hn => (first | rfl | (simp; done) | (simp <;> omega) | omega))) | exact rfl))); (case hg => (repeat (first | assumption | (exact setRow_heap _ _ _ _ _ _ (by assumption)) | (refine heap_at _ _ _ ?_; (first | rfl | (simp; done) | (simp <;> omega) | omega); done) | refine heap_drew' _ _ _ ?_ | (apply heap_past; (case hn => (first | rfl | (simp; done) | (simp <;> omega) | omega)))))); (case hi => exact sz514 _ _ _); (case hold => simp [rv_size])) | (apply load_tail (ty := 22); (case ho => rfl); (case hgd => rfl); (case hx => rfl); (case hg => (repeat (first | assumption | (exact setRow_heap _ _ _ _ _ _ (by assumption)) | (refine heap_at _ _ _ ?_; (first | rfl | (simp; done) | (simp <;> omega) | omega); done) | refine heap_drew' _ _ _ ?_ | (apply heap_past; (case hn => (first | rfl | (simp; done) | (simp <;> omega) | omega)))))); (case hk => rfl); (case hu => exact Try.underlying22); (case hd => rfl); (case hi => exact sz512 _)))
  refine (colour_upj _ _ _ _ j hk _).mono ?_; rintro e w6 ⟨rfl, hU6⟩
  have q6_0 : w6.heap[w2.heap.size]? = some (.cells (rv [c % 256, 0] 512 F) 24 (0, 0)) := (hU6.heap (by first | omega | (simp <;> omega))).trans (by (repeat (first | assumption | (exact setRow_heap _ _ _ _ _ _ (by assumption)) | (refine heap_at _ _ _ ?_; (first | rfl | (simp; done) | (simp <;> omega) | omega); done) | refine heap_drew' _ _ _ ?_ | (apply heap_past; (case hn => (first | rfl | (simp; done) | (simp <;> omega) | omega))))))
  have q6_1 : w6.heap[w3.heap.size]? = some (.cells (rv [0, 0] 512 F) 24 (0, 0)) := (hU6.heap (by first | omega | (simp <;> omega))).trans (by (repeat (first | assumption | (exact setRow_heap _ _ _ _ _ _ (by assumption)) | (refine heap_at _ _ _ ?_; (first | rfl | (simp; done) | (simp <;> omega) | omega); done) | refine heap_drew' _ _ _ ?_ | (apply heap_past; (case hn => (first | rfl | (simp; done) | (simp <;> omega) | omega))))))
  have z6 : w5.heap.size ≤ w6.heap.size := by have := hU6.size; first | omega | (simp at this; omega)
  have l6_0 : w2.heap.size < w6.heap.size := lt_of_block q6_0
  have l6_1 : w3.heap.size < w6.heap.size := lt_of_block q6_1
  have hV6 : Up w w6 := Up.trans (by (repeat (first | exact Up.refl _ | assumption | refine Up.drew ?_ | refine Up.alloc ?_ _ | (refine Up.setRow ?_ (by first | omega | (simp <;> omega)) _)))) hU6
  clear hU6
  clear hV5
  clear q5_0
  clear q5_1
  have HV6 := Lib.hid hV6
  clear hV6 MA
  rcases h7 with ⟨v7, a7⟩ | ⟨v7, a7⟩
  · have hx : vCol (c % 256) (F j % 512) = F j % 512 := if_pos v7
    have hx0 : vCol 0 (F j % 512) = F j % 512 := if_pos (by decide +kernel)
    have y0 : 0 ≤ F j % 512 := by omega
    have y1 : F j % 512 ≤ 511 := by omega
    rw [hx]
    have HX := Lib.hid hx0
    clear hx hx0 v7
    go_wp2_with (first | (apply load_is (ty := 24); (case ho => rfl); (case hgd => rfl); (case hx => rfl); (case hg => (repeat (first | assumption | (exact setRow_heap _ _ _ _ _ _ (by assumption)) | (refine heap_at _ _ _ ?_; (first | rfl | (simp; done) | (simp <;> omega) | omega); done) | refine heap_drew' _ _ _ ?_ | (apply heap_past; (case hn => (first | rfl | (simp; done) | (simp <;> omega) | omega)))))); (case hu => exact Try.underlying24); (case hd => rfl); (case hi => exact sz514 _ _ _)) | (apply store_is (ty := 24); (case ho => rfl); (case hgd => rfl); (case hx => rfl); (case hy => rfl); (case h1 => exact rv_one _ _ _); (case hw => (repeat (first | (refine setRow_at _ _ _ _ _ ?_; (first | rfl | (simp; done) | (simp <;> omega) | omega); done) | apply setRow_drew_is | (apply setRow_past_is; (case hn => (first | rfl | (simp; done) | (simp <;> omega) | omega))) | exact rfl))); (case hg => (repeat (first | assumption | (exact setRow_heap _ _ _ _ _ _ (by assumption)) | (refine heap_at _ _ _ ?_; (first | rfl | (simp; done) | (simp <;> omega) | omega); done) | refine heap_drew' _ _ _ ?_ | (apply heap_past; (case hn => (first | rfl | (simp; done) | (simp <;> omega) | omega)))))); (case hi => exact sz514 _ _ _); (case hold => simp [rv_size])) | (apply load_tail (ty := 22); (case ho => rfl); (case hgd => rfl); (case hx => rfl); (case hg => (repeat (first | assumption | (exact setRow_heap _ _ _ _ _ _ (by assumption)) | (refine heap_at _ _ _ ?_; (first | rfl | (simp; done) | (simp <;> omega) | omega); done) | refine heap_drew' _ _ _ ?_ | (apply heap_past; (case hn => (first | rfl | (simp; done) | (simp <;> omega) | omega)))))); (case hk => rfl); (case hu => exact Try.underlying22); (case hd => rfl); (case hi => exact sz512 _)))
    refine (colour_upj _ _ _ _ j hk _).mono ?_; rintro e w7 ⟨rfl, hU7⟩
    rw [HX.out]
    go_wp2_with (first | (apply load_is (ty := 24); (case ho => rfl); (case hgd => rfl); (case hx => rfl); (case hg => (repeat (first | assumption | (exact setRow_heap _ _ _ _ _ _ (by assumption)) | (refine heap_at _ _ _ ?_; (first | rfl | (simp; done) | (simp <;> omega) | omega); done) | refine heap_drew' _ _ _ ?_ | (apply heap_past; (case hn => (first | rfl | (simp; done) | (simp <;> omega) | omega)))))); (case hu => exact Try.underlying24); (case hd => rfl); (case hi => exact sz514 _ _ _)) | (apply store_is (ty := 24); (case ho => rfl); (case hgd => rfl); (case hx => rfl); (case hy => rfl); (case h1 => exact rv_one _ _ _); (case hw => (repeat (first | (refine setRow_at _ _ _ _ _ ?_; (first | rfl | (simp; done) | (simp <;> omega) | omega); done) | apply setRow_drew_is | (apply setRow_past_is; (case hn => (first | rfl | (simp; done) | (simp <;> omega) | omega))) | exact rfl))); (case hg => (repeat (first | assumption | (exact setRow_heap _ _ _ _ _ _ (by assumption)) | (refine heap_at _ _ _ ?_; (first | rfl | (simp; done) | (simp <;> omega) | omega); done) | refine heap_drew' _ _ _ ?_ | (apply heap_past; (case hn => (first | rfl | (simp; done) | (simp <;> omega) | omega)))))); (case hi => exact sz514 _ _ _); (case hold => simp [rv_size])) | (apply load_tail (ty := 22); (case ho => rfl); (case hgd => rfl); (case hx => rfl); (case hg => (repeat (first | assumption | (exact setRow_heap _ _ _ _ _ _ (by assumption)) | (refine heap_at _ _ _ ?_; (first | rfl | (simp; done) | (simp <;> omega) | omega); done) | refine heap_drew' _ _ _ ?_ | (apply heap_past; (case hn => (first | rfl | (simp; done) | (simp <;> omega) | omega)))))); (case hk => rfl); (case hu => exact Try.underlying22); (case hd => rfl); (case hi => exact sz512 _)))
    go_ret
    exact ⟨rfl, HV6.out.trans hU7⟩
  · have hx : vCol (c % 256) (F j % 512) = (4 * (F j % 512 / 64 % 8) + 2 * (F j % 512 / 8 % 8) + F j % 512 % 8) / 7 * 73 := if_neg (by rw [v7]; decide)
    rw [hx]
    have y0 : 0 ≤ (4 * (F j % 512 / 64 % 8) + 2 * (F j % 512 / 8 % 8) + F j % 512 % 8) / 7 := by omega
    have y1 : (4 * (F j % 512 / 64 % 8) + 2 * (F j % 512 / 8 % 8) + F j % 512 % 8) / 7 ≤ 7 := by omega
    generalize (4 * (F j % 512 / 64 % 8) + 2 * (F j % 512 / 8 % 8) + F j % 512 % 8) / 7 = x at *
    have mx : (x * 73).tmod 73 = 0 := Int.mul_tmod_left _ _
    have d0 : decide (0 ≤ x * 73) = true := decide_eq_true (by omega)
    have d1 : decide (x * 73 ≤ 511) = true := decide_eq_true (by omega)
    clear hx v7
    go_wp2_with (first | (apply load_is (ty := 24); (case ho => rfl); (case hgd => rfl); (case hx => rfl); (case hg => (repeat (first | assumption | (exact setRow_heap _ _ _ _ _ _ (by assumption)) | (refine heap_at _ _ _ ?_; (first | rfl | (simp; done) | (simp <;> omega) | omega); done) | refine heap_drew' _ _ _ ?_ | (apply heap_past; (case hn => (first | rfl | (simp; done) | (simp <;> omega) | omega)))))); (case hu => exact Try.underlying24); (case hd => rfl); (case hi => exact sz514 _ _ _)) | (apply store_is (ty := 24); (case ho => rfl); (case hgd => rfl); (case hx => rfl); (case hy => rfl); (case h1 => exact rv_one _ _ _); (case hw => (repeat (first | (refine setRow_at _ _ _ _ _ ?_; (first | rfl | (simp; done) | (simp <;> omega) | omega); done) | apply setRow_drew_is | (apply setRow_past_is; (case hn => (first | rfl | (simp; done) | (simp <;> omega) | omega))) | exact rfl))); (case hg => (repeat (first | assumption | (exact setRow_heap _ _ _ _ _ _ (by assumption)) | (refine heap_at _ _ _ ?_; (first | rfl | (simp; done) | (simp <;> omega) | omega); done) | refine heap_drew' _ _ _ ?_ | (apply heap_past; (case hn => (first | rfl | (simp; done) | (simp <;> omega) | omega)))))); (case hi => exact sz514 _ _ _); (case hold => simp [rv_size])) | (apply load_tail (ty := 22); (case ho => rfl); (case hgd => rfl); (case hx => rfl); (case hg => (repeat (first | assumption | (exact setRow_heap _ _ _ _ _ _ (by assumption)) | (refine heap_at _ _ _ ?_; (first | rfl | (simp; done) | (simp <;> omega) | omega); done) | refine heap_drew' _ _ _ ?_ | (apply heap_past; (case hn => (first | rfl | (simp; done) | (simp <;> omega) | omega)))))); (case hk => rfl); (case hu => exact Try.underlying22); (case hd => rfl); (case hi => exact sz512 _)))
    go_ret
    exact ⟨rfl, HV6.out⟩
end Go.Proofs.Ytandoejbimihoaa
