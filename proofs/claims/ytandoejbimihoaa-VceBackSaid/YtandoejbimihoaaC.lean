/- Contracts of the functions of the package vce. -/
import Derived.Test.YtandoejbimihoaaV
namespace Go.Proofs.Ytandoejbimihoaa
open Go.RowKit
open RV
attribute [local go_sem] rv2_set0 rv2_set1 rv2_set rv2_get0 rv2_get1 rv2_get zv514 BM.and511 BM.and7 BM.and3 BM.and255 BM.and1
theorem andNot_255 : ∀ m, m < 512 → bits .andNot .i64 ((m : Nat) : Int) 255 = (m : Int) / 256 * 256 := by decide +kernel
theorem andNot_any (n : Int) : bits .andNot .i64 (n % 512) 255 = n % 512 / 256 * 256 := by
  obtain ⟨m, hm⟩ := Int.eq_ofNat_of_zero_le (show 0 ≤ n % 512 by omega)
  rw [hm]; exact andNot_255 m (by omega)
def vLow (n b : Int) : Int := n % 512 / 256 * 256 + b
theorem low_or (n b : Int) (h0 : 0 ≤ b) (h1 : b ≤ 255) : bits .or .i64 (n % 512 / 256 * 256) b = vLow n b :=
  BM.or_join 8 _ _ (by omega) (by simp) (by omega) h0 (by simp; omega) (by omega)
theorem low_any (n b : Int) (h0 : 0 ≤ b) (h1 : b ≤ 255) (w : World) : Calls Try.prog 15 #[.int .i64 n, .int .i64 b] w fun e w' => e = .returned (.int .i64 (vLow n b)) ∧ w = w' := by
  have hn := andNot_any n
  have hl := low_or n b h0 h1
  go_enter Try.func15, Try.ntmps15
  go_wp2_with fail
  go_ret
  exact ⟨rfl, rfl⟩
def vHigh (n b : Int) : Int := n % 256 + 256 * (b % 2)
theorem high_put (n b : Int) : BM.vPut (n % 512) 8 (BM.vBit b 0 == 1) = vHigh n b := by
  have e0 : BM.vBit b 0 = b % 2 := by
    unfold BM.vBit; rw [if_pos (by omega)]; simp
  have e8 : BM.vBit (n % 512) 8 = n % 512 / 256 := by
    unfold BM.vBit; rw [if_pos (by omega)]
    show n % 512 / 256 % 2 = _
    omega
  unfold BM.vPut vHigh
  rw [if_pos (by omega), e8, e0, show (2 : Int) ^ (8 : Int).toNat = 256 from rfl]
  by_cases h : b % 2 = 1
  · rw [h]; simp; omega
  · have : b % 2 = 0 := by omega
    rw [this]; simp; omega
theorem high_any (n b : Int) (w : World) : Calls Try.prog 16 #[.int .i64 n, .int .i64 b] w fun e w' => e = .returned (.int .i64 (vHigh n b)) ∧ w = w' := by
  have hp := Lib.hid (high_put n b)
  go_enter Try.func16, Try.ntmps16
  go_wp2_with (first | (go_at_call 13; refine (bit_any _ _ _).mono ?_; rintro e w' ⟨rfl, rfl⟩) | (go_at_call 17; refine (put_any _ _ _ (by omega) _).mono ?_; rintro e w' ⟨rfl, rfl⟩))
  go_ret
  exact ⟨ret_int hp.out, rfl⟩
def vCol (ct c : Int) : Int := if BM.vBit ct 7 = 0 then c else (4 * (c / 64 % 8) + 2 * (c / 8 % 8) + c % 8) / 7 * 73
theorem colour_at (ct a : Int) (F : Nat → Int) (k : Int) (j : Nat) (hk : k % 512 = (j : Int)) (w : World) : Calls Try.prog 7 #[.agg (rv [ct, a] 512 F), .int .i64 k] w fun e w' => e = .returned (.int .i64 (vCol ct (F j % 512))) ∧ w.alloc (.cells (rv [ct, a] 512 F) 24) = w' := by
  have hj0 : (0 : Int) ≤ (j : Int) := by omega
  have hj1 : (j : Int) < 512 := by omega
  have hj : j < 512 := by omega
  obtain ⟨c, hc⟩ : ∃ c, F j % 512 = c := ⟨_, rfl⟩
  have c0 : 0 ≤ c := by omega
  have c1 : c ≤ 511 := by omega
  have HC := Lib.hid hc
  rw [hc]
  have b0 : 0 ≤ c / 64 % 8 := by omega
  have b1 : c / 64 % 8 ≤ 7 := by omega
  have b2 : 0 ≤ c / 8 % 8 := by omega
  have b3 : c / 8 % 8 ≤ 7 := by omega
  have b4 : 0 ≤ c % 8 := by omega
  have b5 : c % 8 ≤ 7 := by omega
  have hd : (4 * (c / 64 % 8) + 2 * (c / 8 % 8) + c % 8).tdiv 7 = (4 * (c / 64 % 8) + 2 * (c / 8 % 8) + c % 8) / 7 := Int.tdiv_eq_ediv_of_nonneg (by omega)
  have b6 : 0 ≤ (4 * (c / 64 % 8) + 2 * (c / 8 % 8) + c % 8) / 7 := by omega
  have b7 : (4 * (c / 64 % 8) + 2 * (c / 8 % 8) + c % 8) / 7 ≤ 7 := by omega
  by_cases h : BM.vBit ct 7 = 0
  · have hb : (BM.vBit ct 7 == 0) = true := beq_iff_eq.2 h
    have hv : vCol ct c = c := if_pos h
    rw [hv]
    clear hd
    go_enter Try.func7, Try.ntmps7
    go_wp2_with (go_at_call 13; refine (bit_any _ _ _).mono ?_; rintro e w' ⟨rfl, rfl⟩)
    go_ret
    exact ⟨rfl, rfl⟩
  · have hb : (BM.vBit ct 7 == 0) = false := beq_eq_false_iff_ne.2 h
    have hv : vCol ct c = (4 * (c / 64 % 8) + 2 * (c / 8 % 8) + c % 8) / 7 * 73 := if_neg h
    rw [hv]
    go_enter Try.func7, Try.ntmps7
    go_wp2_with (go_at_call 13; refine (bit_any _ _ _).mono ?_; rintro e w' ⟨rfl, rfl⟩)
    go_ret
    exact ⟨rfl, rfl⟩
def vDot (c : Int) : Int := if c % 4 = 0 then 4 else if c % 4 = 1 then 3 else 2
theorem dot_any (ct a : Int) (F : Nat → Int) (w : World) : Calls Try.prog 11 #[.agg (rv [ct, a] 512 F)] w fun e w' => e = .returned (.int .i64 (vDot ct)) ∧ w.alloc (.cells (rv [ct, a] 512 F) 24) = w' := by
  have h : ((ct % 4 == 0) = true ∧ vDot ct = 4) ∨ ((ct % 4 == 0) = false ∧ (ct % 4 == 1) = true ∧ vDot ct = 3) ∨ ((ct % 4 == 0) = false ∧ (ct % 4 == 1) = false ∧ vDot ct = 2) := by
    unfold vDot
    by_cases h0 : ct % 4 = 0
    · exact .inl ⟨beq_iff_eq.2 h0, if_pos h0⟩
    · by_cases h1 : ct % 4 = 1
      · exact .inr (.inl ⟨beq_eq_false_iff_ne.2 h0, beq_iff_eq.2 h1, by rw [if_neg h0, if_pos h1]⟩)
      · exact .inr (.inr ⟨beq_eq_false_iff_ne.2 h0, beq_eq_false_iff_ne.2 h1, by rw [if_neg h0, if_neg h1]⟩)
  rcases h with ⟨h0, hv⟩ | ⟨h0, h1, hv⟩ | ⟨h0, h1, hv⟩
  all_goals (rw [hv]; clear hv; go_enter Try.func11, Try.ntmps11; go_wp2_with fail; go_ret; exact ⟨rfl, rfl⟩)
theorem lines_any (ct a : Int) (F : Nat → Int) (w : World) : Calls Try.prog 12 #[.agg (rv [ct, a] 512 F)] w fun e w' => e = .returned (.int .i64 (262 + BM.vBit ct 2)) ∧ w.alloc (.cells (rv [ct, a] 512 F) 24) = w' := by
  have hb := BM.vBit_rng ct 2
  have h0 : 0 ≤ BM.vBit ct 2 := hb.1
  have h1 : BM.vBit ct 2 ≤ 1 := by rcases hb.2 with h | h <;> omega
  clear hb
  go_enter Try.func12, Try.ntmps12
  go_wp2_with (go_at_call 13; refine (bit_any _ _ _).mono ?_; rintro e w' ⟨rfl, rfl⟩)
  go_ret
  exact ⟨rfl, rfl⟩
theorem write_0 (ct a : Int) (F : Nat → Int) (b : Int) (j : Nat) (hk : a % 512 = (j : Int)) (w : World) : Calls Try.prog 9 #[.agg (rv [ct, a] 512 F), .int .i64 0, .int .i64 b] w fun e w' => e = .returned (.agg (rv [b % 256, a] 512 F)) ∧ (w.alloc (.cells (rv [b % 256, a] 512 F) 24)).alloc (.cells (rv [b % 256, a] 512 F) 24) = w' := by
  have hj0 : (0 : Int) ≤ (j : Int) := by omega
  have hj1 : (j : Int) < 512 := by omega
  have hj : j < 512 := by omega
  have hb0 : 0 ≤ b % 256 := by omega
  have hb1 : b % 256 ≤ 255 := by omega
  go_enter Try.func9, Try.ntmps9
  go_wp2_with (first | (first | (apply load_is (ty := 24); (case ho => rfl); (case hgd => rfl); (case hx => rfl); (case hg => (repeat (first | assumption | (exact setRow_heap _ _ _ _ _ _ (by assumption)) | (refine heap_at _ _ _ ?_; (first | rfl | (simp; done) | (simp <;> omega) | omega); done) | refine heap_drew' _ _ _ ?_ | (apply heap_past; (case hn => (first | rfl | (simp; done) | (simp <;> omega) | omega)))))); (case hu => exact Try.underlying24); (case hd => rfl); (case hi => exact sz514 _ _ _)) | (apply store_is (ty := 24); (case ho => rfl); (case hgd => rfl); (case hx => rfl); (case hy => rfl); (case h1 => exact rv_one _ _ _); (case hw => (repeat (first | (refine setRow_at _ _ _ _ _ ?_; (first | rfl | (simp; done) | (simp <;> omega) | omega); done) | apply setRow_drew_is | (apply setRow_past_is; (case hn => (first | rfl | (simp; done) | (simp <;> omega) | omega))) | exact rfl))); (case hg => (repeat (first | assumption | (exact setRow_heap _ _ _ _ _ _ (by assumption)) | (refine heap_at _ _ _ ?_; (first | rfl | (simp; done) | (simp <;> omega) | omega); done) | refine heap_drew' _ _ _ ?_ | (apply heap_past; (case hn => (first | rfl | (simp; done) | (simp <;> omega) | omega)))))); (case hi => exact sz514 _ _ _); (case hold => simp [rv_size]))) | (go_at_call 14; refine (byte_any _ _).mono ?_; rintro e w' ⟨rfl, rfl⟩) | (go_at_call 15; refine (low_any _ _ hb0 hb1 _).mono ?_; rintro e w' ⟨rfl, rfl⟩) | (go_at_call 16; refine (high_any _ _ _).mono ?_; rintro e w' ⟨rfl, rfl⟩))
  refine bodyPost_ret (v := .agg (rv [b % 256, a] 512 F)) ?_ rfl ⟨rfl, ?_⟩
  · (apply results_cell_row; (case h => rfl); (case hp => rfl); (case hg => (repeat (first | assumption | (exact setRow_heap _ _ _ _ _ _ (by assumption)) | (refine heap_at _ _ _ ?_; (first | rfl | (simp; done) | (simp <;> omega) | omega); done) | refine heap_drew' _ _ _ ?_ | (apply heap_past; (case hn => (first | rfl | (simp; done) | (simp <;> omega) | omega)))))); (case hu => exact Try.underlying24); (case hd => rfl); (case hi => exact sz514 _ _ _))
  · rfl
theorem write_2 (ct a : Int) (F : Nat → Int) (b : Int) (j : Nat) (hk : a % 512 = (j : Int)) (w : World) : Calls Try.prog 9 #[.agg (rv [ct, a] 512 F), .int .i64 2, .int .i64 b] w fun e w' => e = .returned (.agg (rv [ct, vLow j (b % 256)] 512 F)) ∧ (w.alloc (.cells (rv [ct, vLow j (b % 256)] 512 F) 24)).alloc (.cells (rv [ct, vLow j (b % 256)] 512 F) 24) = w' := by
  have hj0 : (0 : Int) ≤ (j : Int) := by omega
  have hj1 : (j : Int) < 512 := by omega
  have hj : j < 512 := by omega
  have hb0 : 0 ≤ b % 256 := by omega
  have hb1 : b % 256 ≤ 255 := by omega
  go_enter Try.func9, Try.ntmps9
  go_wp2_with (first | (first | (apply load_is (ty := 24); (case ho => rfl); (case hgd => rfl); (case hx => rfl); (case hg => (repeat (first | assumption | (exact setRow_heap _ _ _ _ _ _ (by assumption)) | (refine heap_at _ _ _ ?_; (first | rfl | (simp; done) | (simp <;> omega) | omega); done) | refine heap_drew' _ _ _ ?_ | (apply heap_past; (case hn => (first | rfl | (simp; done) | (simp <;> omega) | omega)))))); (case hu => exact Try.underlying24); (case hd => rfl); (case hi => exact sz514 _ _ _)) | (apply store_is (ty := 24); (case ho => rfl); (case hgd => rfl); (case hx => rfl); (case hy => rfl); (case h1 => exact rv_one _ _ _); (case hw => (repeat (first | (refine setRow_at _ _ _ _ _ ?_; (first | rfl | (simp; done) | (simp <;> omega) | omega); done) | apply setRow_drew_is | (apply setRow_past_is; (case hn => (first | rfl | (simp; done) | (simp <;> omega) | omega))) | exact rfl))); (case hg => (repeat (first | assumption | (exact setRow_heap _ _ _ _ _ _ (by assumption)) | (refine heap_at _ _ _ ?_; (first | rfl | (simp; done) | (simp <;> omega) | omega); done) | refine heap_drew' _ _ _ ?_ | (apply heap_past; (case hn => (first | rfl | (simp; done) | (simp <;> omega) | omega)))))); (case hi => exact sz514 _ _ _); (case hold => simp [rv_size]))) | (go_at_call 14; refine (byte_any _ _).mono ?_; rintro e w' ⟨rfl, rfl⟩) | (go_at_call 15; refine (low_any _ _ hb0 hb1 _).mono ?_; rintro e w' ⟨rfl, rfl⟩) | (go_at_call 16; refine (high_any _ _ _).mono ?_; rintro e w' ⟨rfl, rfl⟩))
  refine bodyPost_ret (v := .agg (rv [ct, vLow j (b % 256)] 512 F)) ?_ rfl ⟨rfl, ?_⟩
  · (apply results_cell_row; (case h => rfl); (case hp => rfl); (case hg => (repeat (first | assumption | (exact setRow_heap _ _ _ _ _ _ (by assumption)) | (refine heap_at _ _ _ ?_; (first | rfl | (simp; done) | (simp <;> omega) | omega); done) | refine heap_drew' _ _ _ ?_ | (apply heap_past; (case hn => (first | rfl | (simp; done) | (simp <;> omega) | omega)))))); (case hu => exact Try.underlying24); (case hd => rfl); (case hi => exact sz514 _ _ _))
  · rfl
theorem write_3 (ct a : Int) (F : Nat → Int) (b : Int) (j : Nat) (hk : a % 512 = (j : Int)) (w : World) : Calls Try.prog 9 #[.agg (rv [ct, a] 512 F), .int .i64 3, .int .i64 b] w fun e w' => e = .returned (.agg (rv [ct, vHigh j (b % 256)] 512 F)) ∧ (w.alloc (.cells (rv [ct, vHigh j (b % 256)] 512 F) 24)).alloc (.cells (rv [ct, vHigh j (b % 256)] 512 F) 24) = w' := by
  have hj0 : (0 : Int) ≤ (j : Int) := by omega
  have hj1 : (j : Int) < 512 := by omega
  have hj : j < 512 := by omega
  have hb0 : 0 ≤ b % 256 := by omega
  have hb1 : b % 256 ≤ 255 := by omega
  go_enter Try.func9, Try.ntmps9
  go_wp2_with (first | (first | (apply load_is (ty := 24); (case ho => rfl); (case hgd => rfl); (case hx => rfl); (case hg => (repeat (first | assumption | (exact setRow_heap _ _ _ _ _ _ (by assumption)) | (refine heap_at _ _ _ ?_; (first | rfl | (simp; done) | (simp <;> omega) | omega); done) | refine heap_drew' _ _ _ ?_ | (apply heap_past; (case hn => (first | rfl | (simp; done) | (simp <;> omega) | omega)))))); (case hu => exact Try.underlying24); (case hd => rfl); (case hi => exact sz514 _ _ _)) | (apply store_is (ty := 24); (case ho => rfl); (case hgd => rfl); (case hx => rfl); (case hy => rfl); (case h1 => exact rv_one _ _ _); (case hw => (repeat (first | (refine setRow_at _ _ _ _ _ ?_; (first | rfl | (simp; done) | (simp <;> omega) | omega); done) | apply setRow_drew_is | (apply setRow_past_is; (case hn => (first | rfl | (simp; done) | (simp <;> omega) | omega))) | exact rfl))); (case hg => (repeat (first | assumption | (exact setRow_heap _ _ _ _ _ _ (by assumption)) | (refine heap_at _ _ _ ?_; (first | rfl | (simp; done) | (simp <;> omega) | omega); done) | refine heap_drew' _ _ _ ?_ | (apply heap_past; (case hn => (first | rfl | (simp; done) | (simp <;> omega) | omega)))))); (case hi => exact sz514 _ _ _); (case hold => simp [rv_size]))) | (go_at_call 14; refine (byte_any _ _).mono ?_; rintro e w' ⟨rfl, rfl⟩) | (go_at_call 15; refine (low_any _ _ hb0 hb1 _).mono ?_; rintro e w' ⟨rfl, rfl⟩) | (go_at_call 16; refine (high_any _ _ _).mono ?_; rintro e w' ⟨rfl, rfl⟩))
  refine bodyPost_ret (v := .agg (rv [ct, vHigh j (b % 256)] 512 F)) ?_ rfl ⟨rfl, ?_⟩
  · (apply results_cell_row; (case h => rfl); (case hp => rfl); (case hg => (repeat (first | assumption | (exact setRow_heap _ _ _ _ _ _ (by assumption)) | (refine heap_at _ _ _ ?_; (first | rfl | (simp; done) | (simp <;> omega) | omega); done) | refine heap_drew' _ _ _ ?_ | (apply heap_past; (case hn => (first | rfl | (simp; done) | (simp <;> omega) | omega)))))); (case hu => exact Try.underlying24); (case hd => rfl); (case hi => exact sz514 _ _ _))
  · rfl
theorem write_4 (ct a : Int) (F : Nat → Int) (b : Int) (j : Nat) (hk : a % 512 = (j : Int)) (w : World) : Calls Try.prog 9 #[.agg (rv [ct, a] 512 F), .int .i64 4, .int .i64 b] w fun e w' => e = .returned (.agg (rv [ct, (j : Int)] 512 (upd F j (vLow (F j) (b % 256))))) ∧ (w.alloc (.cells (rv [ct, (j : Int)] 512 (upd F j (vLow (F j) (b % 256)))) 24)).alloc (.cells (rv [ct, (j : Int)] 512 (upd F j (vLow (F j) (b % 256)))) 24) = w' := by
  have hj0 : (0 : Int) ≤ (j : Int) := by omega
  have hj1 : (j : Int) < 512 := by omega
  have hj : j < 512 := by omega
  have hb0 : 0 ≤ b % 256 := by omega
  have hb1 : b % 256 ≤ 255 := by omega
  go_enter Try.func9, Try.ntmps9
  go_wp2_with (first | (first | (apply load_is (ty := 24); (case ho => rfl); (case hgd => rfl); (case hx => rfl); (case hg => (repeat (first | assumption | (exact setRow_heap _ _ _ _ _ _ (by assumption)) | (refine heap_at _ _ _ ?_; (first | rfl | (simp; done) | (simp <;> omega) | omega); done) | refine heap_drew' _ _ _ ?_ | (apply heap_past; (case hn => (first | rfl | (simp; done) | (simp <;> omega) | omega)))))); (case hu => exact Try.underlying24); (case hd => rfl); (case hi => exact sz514 _ _ _)) | (apply store_is (ty := 24); (case ho => rfl); (case hgd => rfl); (case hx => rfl); (case hy => rfl); (case h1 => exact rv_one _ _ _); (case hw => (repeat (first | (refine setRow_at _ _ _ _ _ ?_; (first | rfl | (simp; done) | (simp <;> omega) | omega); done) | apply setRow_drew_is | (apply setRow_past_is; (case hn => (first | rfl | (simp; done) | (simp <;> omega) | omega))) | exact rfl))); (case hg => (repeat (first | assumption | (exact setRow_heap _ _ _ _ _ _ (by assumption)) | (refine heap_at _ _ _ ?_; (first | rfl | (simp; done) | (simp <;> omega) | omega); done) | refine heap_drew' _ _ _ ?_ | (apply heap_past; (case hn => (first | rfl | (simp; done) | (simp <;> omega) | omega)))))); (case hi => exact sz514 _ _ _); (case hold => simp [rv_size]))) | (go_at_call 14; refine (byte_any _ _).mono ?_; rintro e w' ⟨rfl, rfl⟩) | (go_at_call 15; refine (low_any _ _ hb0 hb1 _).mono ?_; rintro e w' ⟨rfl, rfl⟩) | (go_at_call 16; refine (high_any _ _ _).mono ?_; rintro e w' ⟨rfl, rfl⟩))
  refine bodyPost_ret (v := .agg (rv [ct, (j : Int)] 512 (upd F j (vLow (F j) (b % 256))))) ?_ rfl ⟨rfl, ?_⟩
  · (apply results_cell_row; (case h => rfl); (case hp => rfl); (case hg => (repeat (first | assumption | (exact setRow_heap _ _ _ _ _ _ (by assumption)) | (refine heap_at _ _ _ ?_; (first | rfl | (simp; done) | (simp <;> omega) | omega); done) | refine heap_drew' _ _ _ ?_ | (apply heap_past; (case hn => (first | rfl | (simp; done) | (simp <;> omega) | omega)))))); (case hu => exact Try.underlying24); (case hd => rfl); (case hi => exact sz514 _ _ _))
  · rfl
theorem write_5 (ct a : Int) (F : Nat → Int) (b : Int) (j : Nat) (hk : a % 512 = (j : Int)) (w : World) : Calls Try.prog 9 #[.agg (rv [ct, a] 512 F), .int .i64 5, .int .i64 b] w fun e w' => e = .returned (.agg (rv [ct, ((j : Int) + 1) % 512] 512 (upd F j (vHigh (F j) (b % 256))))) ∧ (w.alloc (.cells (rv [ct, ((j : Int) + 1) % 512] 512 (upd F j (vHigh (F j) (b % 256)))) 24)).alloc (.cells (rv [ct, ((j : Int) + 1) % 512] 512 (upd F j (vHigh (F j) (b % 256)))) 24) = w' := by
  have hj0 : (0 : Int) ≤ (j : Int) := by omega
  have hj1 : (j : Int) < 512 := by omega
  have hj : j < 512 := by omega
  have hb0 : 0 ≤ b % 256 := by omega
  have hb1 : b % 256 ≤ 255 := by omega
  go_enter Try.func9, Try.ntmps9
  go_wp2_with (first | (first | (apply load_is (ty := 24); (case ho => rfl); (case hgd => rfl); (case hx => rfl); (case hg => (repeat (first | assumption | (exact setRow_heap _ _ _ _ _ _ (by assumption)) | (refine heap_at _ _ _ ?_; (first | rfl | (simp; done) | (simp <;> omega) | omega); done) | refine heap_drew' _ _ _ ?_ | (apply heap_past; (case hn => (first | rfl | (simp; done) | (simp <;> omega) | omega)))))); (case hu => exact Try.underlying24); (case hd => rfl); (case hi => exact sz514 _ _ _)) | (apply store_is (ty := 24); (case ho => rfl); (case hgd => rfl); (case hx => rfl); (case hy => rfl); (case h1 => exact rv_one _ _ _); (case hw => (repeat (first | (refine setRow_at _ _ _ _ _ ?_; (first | rfl | (simp; done) | (simp <;> omega) | omega); done) | apply setRow_drew_is | (apply setRow_past_is; (case hn => (first | rfl | (simp; done) | (simp <;> omega) | omega))) | exact rfl))); (case hg => (repeat (first | assumption | (exact setRow_heap _ _ _ _ _ _ (by assumption)) | (refine heap_at _ _ _ ?_; (first | rfl | (simp; done) | (simp <;> omega) | omega); done) | refine heap_drew' _ _ _ ?_ | (apply heap_past; (case hn => (first | rfl | (simp; done) | (simp <;> omega) | omega)))))); (case hi => exact sz514 _ _ _); (case hold => simp [rv_size]))) | (go_at_call 14; refine (byte_any _ _).mono ?_; rintro e w' ⟨rfl, rfl⟩) | (go_at_call 15; refine (low_any _ _ hb0 hb1 _).mono ?_; rintro e w' ⟨rfl, rfl⟩) | (go_at_call 16; refine (high_any _ _ _).mono ?_; rintro e w' ⟨rfl, rfl⟩))
  refine bodyPost_ret (v := .agg (rv [ct, ((j : Int) + 1) % 512] 512 (upd F j (vHigh (F j) (b % 256))))) ?_ rfl ⟨rfl, ?_⟩
  · (apply results_cell_row; (case h => rfl); (case hp => rfl); (case hg => (repeat (first | assumption | (exact setRow_heap _ _ _ _ _ _ (by assumption)) | (refine heap_at _ _ _ ?_; (first | rfl | (simp; done) | (simp <;> omega) | omega); done) | refine heap_drew' _ _ _ ?_ | (apply heap_past; (case hn => (first | rfl | (simp; done) | (simp <;> omega) | omega)))))); (case hu => exact Try.underlying24); (case hd => rfl); (case hi => exact sz514 _ _ _))
  · rfl
theorem write_1 (ct a : Int) (F : Nat → Int) (b : Int) (j : Nat) (hk : a % 512 = (j : Int)) (w : World) : Calls Try.prog 9 #[.agg (rv [ct, a] 512 F), .int .i64 1, .int .i64 b] w fun e w' => e = .returned (.agg (rv [ct, a] 512 F)) ∧ (w.alloc (.cells (rv [ct, a] 512 F) 24)).alloc (.cells (rv [ct, a] 512 F) 24) = w' := by
  have hj0 : (0 : Int) ≤ (j : Int) := by omega
  have hj1 : (j : Int) < 512 := by omega
  have hj : j < 512 := by omega
  have hb0 : 0 ≤ b % 256 := by omega
  have hb1 : b % 256 ≤ 255 := by omega
  go_enter Try.func9, Try.ntmps9
  go_wp2_with (first | (first | (apply load_is (ty := 24); (case ho => rfl); (case hgd => rfl); (case hx => rfl); (case hg => (repeat (first | assumption | (exact setRow_heap _ _ _ _ _ _ (by assumption)) | (refine heap_at _ _ _ ?_; (first | rfl | (simp; done) | (simp <;> omega) | omega); done) | refine heap_drew' _ _ _ ?_ | (apply heap_past; (case hn => (first | rfl | (simp; done) | (simp <;> omega) | omega)))))); (case hu => exact Try.underlying24); (case hd => rfl); (case hi => exact sz514 _ _ _)) | (apply store_is (ty := 24); (case ho => rfl); (case hgd => rfl); (case hx => rfl); (case hy => rfl); (case h1 => exact rv_one _ _ _); (case hw => (repeat (first | (refine setRow_at _ _ _ _ _ ?_; (first | rfl | (simp; done) | (simp <;> omega) | omega); done) | apply setRow_drew_is | (apply setRow_past_is; (case hn => (first | rfl | (simp; done) | (simp <;> omega) | omega))) | exact rfl))); (case hg => (repeat (first | assumption | (exact setRow_heap _ _ _ _ _ _ (by assumption)) | (refine heap_at _ _ _ ?_; (first | rfl | (simp; done) | (simp <;> omega) | omega); done) | refine heap_drew' _ _ _ ?_ | (apply heap_past; (case hn => (first | rfl | (simp; done) | (simp <;> omega) | omega)))))); (case hi => exact sz514 _ _ _); (case hold => simp [rv_size]))) | (go_at_call 14; refine (byte_any _ _).mono ?_; rintro e w' ⟨rfl, rfl⟩) | (go_at_call 15; refine (low_any _ _ hb0 hb1 _).mono ?_; rintro e w' ⟨rfl, rfl⟩) | (go_at_call 16; refine (high_any _ _ _).mono ?_; rintro e w' ⟨rfl, rfl⟩))
  refine bodyPost_ret (v := .agg (rv [ct, a] 512 F)) ?_ rfl ⟨rfl, ?_⟩
  · (apply results_cell_row; (case h => rfl); (case hp => rfl); (case hg => (repeat (first | assumption | (exact setRow_heap _ _ _ _ _ _ (by assumption)) | (refine heap_at _ _ _ ?_; (first | rfl | (simp; done) | (simp <;> omega) | omega); done) | refine heap_drew' _ _ _ ?_ | (apply heap_past; (case hn => (first | rfl | (simp; done) | (simp <;> omega) | omega)))))); (case hu => exact Try.underlying24); (case hd => rfl); (case hi => exact sz514 _ _ _))
  · rfl
theorem write_7 (ct a : Int) (F : Nat → Int) (b : Int) (j : Nat) (hk : a % 512 = (j : Int)) (w : World) : Calls Try.prog 9 #[.agg (rv [ct, a] 512 F), .int .i64 7, .int .i64 b] w fun e w' => e = .returned (.agg (rv [ct, a] 512 F)) ∧ (w.alloc (.cells (rv [ct, a] 512 F) 24)).alloc (.cells (rv [ct, a] 512 F) 24) = w' := by
  have hj0 : (0 : Int) ≤ (j : Int) := by omega
  have hj1 : (j : Int) < 512 := by omega
  have hj : j < 512 := by omega
  have hb0 : 0 ≤ b % 256 := by omega
  have hb1 : b % 256 ≤ 255 := by omega
  go_enter Try.func9, Try.ntmps9
  go_wp2_with (first | (first | (apply load_is (ty := 24); (case ho => rfl); (case hgd => rfl); (case hx => rfl); (case hg => (repeat (first | assumption | (exact setRow_heap _ _ _ _ _ _ (by assumption)) | (refine heap_at _ _ _ ?_; (first | rfl | (simp; done) | (simp <;> omega) | omega); done) | refine heap_drew' _ _ _ ?_ | (apply heap_past; (case hn => (first | rfl | (simp; done) | (simp <;> omega) | omega)))))); (case hu => exact Try.underlying24); (case hd => rfl); (case hi => exact sz514 _ _ _)) | (apply store_is (ty := 24); (case ho => rfl); (case hgd => rfl); (case hx => rfl); (case hy => rfl); (case h1 => exact rv_one _ _ _); (case hw => (repeat (first | (refine setRow_at _ _ _ _ _ ?_; (first | rfl | (simp; done) | (simp <;> omega) | omega); done) | apply setRow_drew_is | (apply setRow_past_is; (case hn => (first | rfl | (simp; done) | (simp <;> omega) | omega))) | exact rfl))); (case hg => (repeat (first | assumption | (exact setRow_heap _ _ _ _ _ _ (by assumption)) | (refine heap_at _ _ _ ?_; (first | rfl | (simp; done) | (simp <;> omega) | omega); done) | refine heap_drew' _ _ _ ?_ | (apply heap_past; (case hn => (first | rfl | (simp; done) | (simp <;> omega) | omega)))))); (case hi => exact sz514 _ _ _); (case hold => simp [rv_size]))) | (go_at_call 14; refine (byte_any _ _).mono ?_; rintro e w' ⟨rfl, rfl⟩) | (go_at_call 15; refine (low_any _ _ hb0 hb1 _).mono ?_; rintro e w' ⟨rfl, rfl⟩) | (go_at_call 16; refine (high_any _ _ _).mono ?_; rintro e w' ⟨rfl, rfl⟩))
  refine bodyPost_ret (v := .agg (rv [ct, a] 512 F)) ?_ rfl ⟨rfl, ?_⟩
  · (apply results_cell_row; (case h => rfl); (case hp => rfl); (case hg => (repeat (first | assumption | (exact setRow_heap _ _ _ _ _ _ (by assumption)) | (refine heap_at _ _ _ ?_; (first | rfl | (simp; done) | (simp <;> omega) | omega); done) | refine heap_drew' _ _ _ ?_ | (apply heap_past; (case hn => (first | rfl | (simp; done) | (simp <;> omega) | omega)))))); (case hu => exact Try.underlying24); (case hd => rfl); (case hi => exact sz514 _ _ _))
  · rfl
theorem read_4 (ct a : Int) (F : Nat → Int) (j : Nat) (hk : a % 512 = (j : Int)) (w : World) : Calls Try.prog 10 #[.agg (rv [ct, a] 512 F), .int .i64 4] w fun e w' => e = .returned (.tuple #[.int .i64 (F j % 256), .agg (rv [ct, (j : Int)] 512 F)]) ∧ ((w.alloc (.cells (rv [ct, (j : Int)] 512 F) 24)).alloc (.cells (rv [ct, (j : Int)] 512 F) 24)).drew = w' := by
  have hj0 : (0 : Int) ≤ (j : Int) := by omega
  have hj1 : (j : Int) < 512 := by omega
  have hj : j < 512 := by omega
  have c0 : 0 ≤ F j % 512 := by omega
  have c1 : F j % 512 ≤ 511 := by omega
  go_enter Try.func10, Try.ntmps10
  go_wp2_with fail
  refine wp_region_still_tail 4 (by kernel_rfl) (by kernel_rfl) ?_
  simp only [List.take_succ_cons, List.take_zero, List.drop_succ_cons, List.drop_zero]
  show wpStill _ _ (World.drew _) (fun a' => wpList _ _ _ _ a' (World.drew _)) _ _
  still_step
  still_call ((byte_any _ _).mono (fun e w' h => ⟨h.1, h.2.symm⟩))
  (apply still_load_row (ty := 24); (case ho => rfl); (case hgd => rfl); (case hx => rfl); (case hg => (repeat (first | assumption | (exact setRow_heap _ _ _ _ _ _ (by assumption)) | (refine heap_at _ _ _ ?_; (first | rfl | (simp; done) | (simp <;> omega) | omega); done) | refine heap_drew' _ _ _ ?_ | (apply heap_past; (case hn => (first | rfl | (simp; done) | (simp <;> omega) | omega)))))); (case hu => exact Try.underlying24); (case hd => rfl); (case hi => exact sz514 _ _ _))
  still_step
  refine wpStill_nil ?_
  go_wp2_with (first | (apply store_is (ty := 24); (case ho => rfl); (case hgd => rfl); (case hx => rfl); (case hy => rfl); (case h1 => exact rv_one _ _ _); (case hw => (repeat (first | (refine setRow_at _ _ _ _ _ ?_; (first | rfl | (simp; done) | (simp <;> omega) | omega); done) | apply setRow_drew_is | (apply setRow_past_is; (case hn => (first | rfl | (simp; done) | (simp <;> omega) | omega))) | exact rfl))); (case hg => (repeat (first | assumption | (exact setRow_heap _ _ _ _ _ _ (by assumption)) | (refine heap_at _ _ _ ?_; (first | rfl | (simp; done) | (simp <;> omega) | omega); done) | refine heap_drew' _ _ _ ?_ | (apply heap_past; (case hn => (first | rfl | (simp; done) | (simp <;> omega) | omega)))))); (case hi => exact sz514 _ _ _); (case hold => simp [rv_size])))
  refine bodyPost_ret (v := .tuple #[.int .i64 (F j % 256), .agg (rv [ct, (j : Int)] 512 F)]) ?_ rfl ⟨rfl, ?_⟩
  · (apply results_tmp_row; (case h => rfl); (case hp => rfl); (case hr => rfl); (case hg => (repeat (first | assumption | (exact setRow_heap _ _ _ _ _ _ (by assumption)) | (refine heap_at _ _ _ ?_; (first | rfl | (simp; done) | (simp <;> omega) | omega); done) | refine heap_drew' _ _ _ ?_ | (apply heap_past; (case hn => (first | rfl | (simp; done) | (simp <;> omega) | omega)))))); (case hu => exact Try.underlying24); (case hd => rfl); (case hi => exact sz514 _ _ _))
  · rfl
theorem read_5 (ct a : Int) (F : Nat → Int) (j : Nat) (hk : a % 512 = (j : Int)) (w : World) : Calls Try.prog 10 #[.agg (rv [ct, a] 512 F), .int .i64 5] w fun e w' => e = .returned (.tuple #[.int .i64 (254 + F j % 512 / 256), .agg (rv [ct, ((j : Int) + 1) % 512] 512 F)]) ∧ ((w.alloc (.cells (rv [ct, ((j : Int) + 1) % 512] 512 F) 24)).alloc (.cells (rv [ct, ((j : Int) + 1) % 512] 512 F) 24)).drew = w' := by
  have hj0 : (0 : Int) ≤ (j : Int) := by omega
  have hj1 : (j : Int) < 512 := by omega
  have hj : j < 512 := by omega
  have c0 : 0 ≤ F j % 512 := by omega
  have c1 : F j % 512 ≤ 511 := by omega
  have ho : bits .or .i64 254 (F j % 512 / 256) = 254 + F j % 512 / 256 := BM.or_join 1 254 (F j % 512 / 256) (by omega) (by decide) (by omega) (by omega) (by show _ < (2 : Int); omega) (by omega)
  go_enter Try.func10, Try.ntmps10
  go_wp2_with fail
  refine wp_region_still_tail 5 (by kernel_rfl) (by kernel_rfl) ?_
  simp only [List.take_succ_cons, List.take_zero, List.drop_succ_cons, List.drop_zero]
  show wpStill _ _ (World.drew _) (fun a' => wpList _ _ _ _ a' (World.drew _)) _ _
  still_step
  still_step
  still_step
  (apply still_load_row (ty := 24); (case ho => rfl); (case hgd => rfl); (case hx => rfl); (case hg => (repeat (first | assumption | (exact setRow_heap _ _ _ _ _ _ (by assumption)) | (refine heap_at _ _ _ ?_; (first | rfl | (simp; done) | (simp <;> omega) | omega); done) | refine heap_drew' _ _ _ ?_ | (apply heap_past; (case hn => (first | rfl | (simp; done) | (simp <;> omega) | omega)))))); (case hu => exact Try.underlying24); (case hd => rfl); (case hi => exact sz514 _ _ _))
  still_step
  refine wpStill_nil ?_
  go_wp2_with (first | (apply store_is (ty := 24); (case ho => rfl); (case hgd => rfl); (case hx => rfl); (case hy => rfl); (case h1 => exact rv_one _ _ _); (case hw => (repeat (first | (refine setRow_at _ _ _ _ _ ?_; (first | rfl | (simp; done) | (simp <;> omega) | omega); done) | apply setRow_drew_is | (apply setRow_past_is; (case hn => (first | rfl | (simp; done) | (simp <;> omega) | omega))) | exact rfl))); (case hg => (repeat (first | assumption | (exact setRow_heap _ _ _ _ _ _ (by assumption)) | (refine heap_at _ _ _ ?_; (first | rfl | (simp; done) | (simp <;> omega) | omega); done) | refine heap_drew' _ _ _ ?_ | (apply heap_past; (case hn => (first | rfl | (simp; done) | (simp <;> omega) | omega)))))); (case hi => exact sz514 _ _ _); (case hold => simp [rv_size])))
  refine bodyPost_ret (v := .tuple #[.int .i64 (254 + F j % 512 / 256), .agg (rv [ct, ((j : Int) + 1) % 512] 512 F)]) ?_ rfl ⟨rfl, ?_⟩
  · (apply results_tmp_row; (case h => rfl); (case hp => rfl); (case hr => rfl); (case hg => (repeat (first | assumption | (exact setRow_heap _ _ _ _ _ _ (by assumption)) | (refine heap_at _ _ _ ?_; (first | rfl | (simp; done) | (simp <;> omega) | omega); done) | refine heap_drew' _ _ _ ?_ | (apply heap_past; (case hn => (first | rfl | (simp; done) | (simp <;> omega) | omega)))))); (case hu => exact Try.underlying24); (case hd => rfl); (case hi => exact sz514 _ _ _))
  · rfl
end Go.Proofs.Ytandoejbimihoaa
