/- Contract of the function Made: a Vce of a few numbers. -/
import Derived.Test.YtandoejbimihoaaC
import Derived.Test.YtandoejbimihoaaRW
import Derived.Test.YtandoejbimihoaaSL
namespace Go.Proofs.Ytandoejbimihoaa
open Go.RowKit
open RV
def madeF (Z : Nat → Int) : Nat → Nat → Int
  | 0 => fun _ => 0
  | n + 1 => upd (madeF Z n) (n * 37 % 512) (Z n)
attribute [local go_sem] rv2_set rv2_get zv514
theorem made_none (c t : Int) (a : Option Addr) (cap : Nat) (w : World) : Calls Try.prog 8 #[.int .i64 c, .int .i64 t, .slice a 0 cap] w fun e w' => e = .returned (.agg (rv [c, t] 512 (fun _ => 0))) ∧ Up w w' := by
  go_enter Try.func8, Try.ntmps8
  go_wp2_with (first | (apply load_is (ty := 24); (case ho => rfl); (case hgd => rfl); (case hx => rfl); (case hg => (repeat (first | assumption | (exact setRow_heap _ _ _ _ _ _ (by assumption)) | (refine heap_at _ _ _ ?_; (first | rfl | (simp; done) | (simp <;> omega) | omega); done) | refine heap_drew' _ _ _ ?_ | (apply heap_past; (case hn => (first | rfl | (simp; done) | (simp <;> omega) | omega)))))); (case hu => exact Try.underlying24); (case hd => rfl); (case hi => exact sz514 _ _ _)) | (apply store_is (ty := 24); (case ho => rfl); (case hgd => rfl); (case hx => rfl); (case hy => rfl); (case h1 => exact rv_one _ _ _); (case hw => (repeat (first | (refine setRow_at _ _ _ _ _ ?_; (first | rfl | (simp; done) | (simp <;> omega) | omega); done) | apply setRow_drew_is | (apply setRow_past_is; (case hn => (first | rfl | (simp; done) | (simp <;> omega) | omega))) | exact rfl))); (case hg => (repeat (first | assumption | (exact setRow_heap _ _ _ _ _ _ (by assumption)) | (refine heap_at _ _ _ ?_; (first | rfl | (simp; done) | (simp <;> omega) | omega); done) | refine heap_drew' _ _ _ ?_ | (apply heap_past; (case hn => (first | rfl | (simp; done) | (simp <;> omega) | omega)))))); (case hi => exact sz514 _ _ _); (case hold => simp [rv_size])) | (apply build_is (t := 24); (case ho => rfl); (case hg => rfl); (case hf => (first | (rw [Array.toList_map]; exact built_vce2 _ _) | exact built_vce2 _ _))))
  go_loop [8] (fun i => i = .int .i64 0) (fun _ => 0)
  case atStart => rfl
  case round =>
    obtain rfl := hrel
    go_wp2_with (first | (apply load_is (ty := 24); (case ho => rfl); (case hgd => rfl); (case hx => rfl); (case hg => (repeat (first | assumption | (exact setRow_heap _ _ _ _ _ _ (by assumption)) | (refine heap_at _ _ _ ?_; (first | rfl | (simp; done) | (simp <;> omega) | omega); done) | refine heap_drew' _ _ _ ?_ | (apply heap_past; (case hn => (first | rfl | (simp; done) | (simp <;> omega) | omega)))))); (case hu => exact Try.underlying24); (case hd => rfl); (case hi => exact sz514 _ _ _)) | (apply store_is (ty := 24); (case ho => rfl); (case hgd => rfl); (case hx => rfl); (case hy => rfl); (case h1 => exact rv_one _ _ _); (case hw => (repeat (first | (refine setRow_at _ _ _ _ _ ?_; (first | rfl | (simp; done) | (simp <;> omega) | omega); done) | apply setRow_drew_is | (apply setRow_past_is; (case hn => (first | rfl | (simp; done) | (simp <;> omega) | omega))) | exact rfl))); (case hg => (repeat (first | assumption | (exact setRow_heap _ _ _ _ _ _ (by assumption)) | (refine heap_at _ _ _ ?_; (first | rfl | (simp; done) | (simp <;> omega) | omega); done) | refine heap_drew' _ _ _ ?_ | (apply heap_past; (case hn => (first | rfl | (simp; done) | (simp <;> omega) | omega)))))); (case hi => exact sz514 _ _ _); (case hold => simp [rv_size])) | (apply build_is (t := 24); (case ho => rfl); (case hg => rfl); (case hf => (first | (rw [Array.toList_map]; exact built_vce2 _ _) | exact built_vce2 _ _))))
    refine bodyPost_ret (v := .agg (rv [c, t] 512 (fun _ => 0))) ?_ rfl ⟨rfl, ?_⟩
    · (apply results_cell_row; (case h => rfl); (case hp => rfl); (case hg => (repeat (first | assumption | (exact setRow_heap _ _ _ _ _ _ (by assumption)) | (refine heap_at _ _ _ ?_; (first | rfl | (simp; done) | (simp <;> omega) | omega); done) | refine heap_drew' _ _ _ ?_ | (apply heap_past; (case hn => (first | rfl | (simp; done) | (simp <;> omega) | omega)))))); (case hu => exact Try.underlying24); (case hd => rfl); (case hi => exact sz514 _ _ _))
    · exact ((Up.refl w).alloc _).alloc _
set_option maxHeartbeats 4000000 in
set_option maxRecDepth 20000 in
theorem made_some (c t : Int) (b off len cap : Nat) (Z : Nat → Int) (w : World) (hlen : len ≤ 9223372036854775807) (hb : b < w.heap.size) (hc : ∀ i, i < len → w.cell? ⟨b, off + i, none⟩ = some (.int .i64 (Z i))) :
    Calls Try.prog 8 #[.int .i64 c, .int .i64 t, .slice (some ⟨b, off, none⟩) len cap] w fun e w' => e = .returned (.agg (rv [c, t] 512 (madeF Z (min len 512)))) ∧ Up w w' := by
  have HC := Lib.hid hc
  obtain ⟨K, hK⟩ : ∃ K, min len 512 = K := ⟨_, rfl⟩
  rw [hK]
  have HK := Lib.hid hK
  clear hc hK
  go_enter Try.func8, Try.ntmps8
  go_wp2_with (first | (apply load_is (ty := 24); (case ho => rfl); (case hgd => rfl); (case hx => rfl); (case hg => (repeat (first | assumption | (exact setRow_heap _ _ _ _ _ _ (by assumption)) | (refine heap_at _ _ _ ?_; (first | rfl | (simp; done) | (simp <;> omega) | omega); done) | refine heap_drew' _ _ _ ?_ | (apply heap_past; (case hn => (first | rfl | (simp; done) | (simp <;> omega) | omega)))))); (case hu => exact Try.underlying24); (case hd => rfl); (case hi => exact sz514 _ _ _)) | (apply store_is (ty := 24); (case ho => rfl); (case hgd => rfl); (case hx => rfl); (case hy => rfl); (case h1 => exact rv_one _ _ _); (case hw => (repeat (first | (refine setRow_at _ _ _ _ _ ?_; (first | rfl | (simp; done) | (simp <;> omega) | omega); done) | apply setRow_drew_is | (apply setRow_past_is; (case hn => (first | rfl | (simp; done) | (simp <;> omega) | omega))) | exact rfl))); (case hg => (repeat (first | assumption | (exact setRow_heap _ _ _ _ _ _ (by assumption)) | (refine heap_at _ _ _ ?_; (first | rfl | (simp; done) | (simp <;> omega) | omega); done) | refine heap_drew' _ _ _ ?_ | (apply heap_past; (case hn => (first | rfl | (simp; done) | (simp <;> omega) | omega)))))); (case hi => exact sz514 _ _ _); (case hold => simp [rv_size])) | (apply build_is (t := 24); (case ho => rfl); (case hg => rfl); (case hf => (first | (rw [Array.toList_map]; exact built_vce2 _ _) | exact built_vce2 _ _))))
  go_loopw [8] (fun i wr => ∃ n : Nat, n ≤ len ∧ n ≤ 512 ∧ i = .int .i64 n ∧ (w.alloc (.cells (rv [0, 0] 512 fun _ => 0) 24)).alloc (.cells (rv [c, t] 512 (madeF Z n)) 24) = wr) (fun i _ => 512 - (intOf i).toNat)
  case atStart => exact ⟨0, by omega, by omega, rfl, rfl⟩
  case round =>
    obtain ⟨n, hn, hn2, rfl, rfl⟩ := hrel
    by_cases hlt : n < len ∧ n < 512
    · have h1 : decide ((n : Int) < (len : Int)) = true := decide_eq_true (by omega)
      have h2 : decide ((n : Int) < 512) = true := decide_eq_true (by omega)
      have h3 : (n : Int) < (len : Int) := by omega
      have hcell : w.cell? ⟨b, off + n, none⟩ = some (.int .i64 (Z n)) := HC.out n hlt.1
      obtain ⟨j, hj⟩ : ∃ j, n * 37 % 512 = j := ⟨_, rfl⟩
      have hj0 : (0 : Int) ≤ (j : Int) := by omega
      have hj1 : (j : Int) < 512 := by omega
      have hjn : j < 512 := by omega
      have ht : ((n : Int) * 37).tmod 512 = (j : Int) := by rw [Int.tmod_eq_emod_of_nonneg (by omega)]; omega
      have hM : upd (madeF Z n) j (Z n) = madeF Z (n + 1) := by rw [madeF, hj]
      have HM := Lib.hid hM
      clear hM hj
      go_wp2_with (first | (apply load_is (ty := 24); (case ho => rfl); (case hgd => rfl); (case hx => rfl); (case hg => (repeat (first | assumption | (exact setRow_heap _ _ _ _ _ _ (by assumption)) | (refine heap_at _ _ _ ?_; (first | rfl | (simp; done) | (simp <;> omega) | omega); done) | refine heap_drew' _ _ _ ?_ | (apply heap_past; (case hn => (first | rfl | (simp; done) | (simp <;> omega) | omega)))))); (case hu => exact Try.underlying24); (case hd => rfl); (case hi => exact sz514 _ _ _)) | (apply store_is (ty := 24); (case ho => rfl); (case hgd => rfl); (case hx => rfl); (case hy => rfl); (case h1 => exact rv_one _ _ _); (case hw => (repeat (first | (refine setRow_at _ _ _ _ _ ?_; (first | rfl | (simp; done) | (simp <;> omega) | omega); done) | apply setRow_drew_is | (apply setRow_past_is; (case hn => (first | rfl | (simp; done) | (simp <;> omega) | omega))) | exact rfl))); (case hg => (repeat (first | assumption | (exact setRow_heap _ _ _ _ _ _ (by assumption)) | (refine heap_at _ _ _ ?_; (first | rfl | (simp; done) | (simp <;> omega) | omega); done) | refine heap_drew' _ _ _ ?_ | (apply heap_past; (case hn => (first | rfl | (simp; done) | (simp <;> omega) | omega)))))); (case hi => exact sz514 _ _ _); (case hold => simp [rv_size])) | (apply build_is (t := 24); (case ho => rfl); (case hg => rfl); (case hf => (first | (rw [Array.toList_map]; exact built_vce2 _ _) | exact built_vce2 _ _))))
      go_roundw
      case rel => exact ⟨n + 1, by omega, by omega, by go_num, by rw [HM.out]⟩
      case measure => simp [intOf]; omega
    · have hm : K = n := by have := HK.out; omega
      subst hm
      by_cases h1 : K < len
      · have d1 : decide ((K : Int) < (len : Int)) = true := decide_eq_true (by omega)
        have d2 : decide ((K : Int) < 512) = false := decide_eq_false (by omega)
        go_wp2_with (first | (apply load_is (ty := 24); (case ho => rfl); (case hgd => rfl); (case hx => rfl); (case hg => (repeat (first | assumption | (exact setRow_heap _ _ _ _ _ _ (by assumption)) | (refine heap_at _ _ _ ?_; (first | rfl | (simp; done) | (simp <;> omega) | omega); done) | refine heap_drew' _ _ _ ?_ | (apply heap_past; (case hn => (first | rfl | (simp; done) | (simp <;> omega) | omega)))))); (case hu => exact Try.underlying24); (case hd => rfl); (case hi => exact sz514 _ _ _)) | (apply store_is (ty := 24); (case ho => rfl); (case hgd => rfl); (case hx => rfl); (case hy => rfl); (case h1 => exact rv_one _ _ _); (case hw => (repeat (first | (refine setRow_at _ _ _ _ _ ?_; (first | rfl | (simp; done) | (simp <;> omega) | omega); done) | apply setRow_drew_is | (apply setRow_past_is; (case hn => (first | rfl | (simp; done) | (simp <;> omega) | omega))) | exact rfl))); (case hg => (repeat (first | assumption | (exact setRow_heap _ _ _ _ _ _ (by assumption)) | (refine heap_at _ _ _ ?_; (first | rfl | (simp; done) | (simp <;> omega) | omega); done) | refine heap_drew' _ _ _ ?_ | (apply heap_past; (case hn => (first | rfl | (simp; done) | (simp <;> omega) | omega)))))); (case hi => exact sz514 _ _ _); (case hold => simp [rv_size])) | (apply build_is (t := 24); (case ho => rfl); (case hg => rfl); (case hf => (first | (rw [Array.toList_map]; exact built_vce2 _ _) | exact built_vce2 _ _))))
        refine bodyPost_ret (v := .agg (rv [c, t] 512 (madeF Z K))) ?_ rfl ⟨rfl, ?_⟩
        · (apply results_cell_row; (case h => rfl); (case hp => rfl); (case hg => (repeat (first | assumption | (exact setRow_heap _ _ _ _ _ _ (by assumption)) | (refine heap_at _ _ _ ?_; (first | rfl | (simp; done) | (simp <;> omega) | omega); done) | refine heap_drew' _ _ _ ?_ | (apply heap_past; (case hn => (first | rfl | (simp; done) | (simp <;> omega) | omega)))))); (case hu => exact Try.underlying24); (case hd => rfl); (case hi => exact sz514 _ _ _))
        · exact ((Up.refl w).alloc _).alloc _
      · have d1 : decide ((K : Int) < (len : Int)) = false := decide_eq_false (by omega)
        go_wp2_with (first | (apply load_is (ty := 24); (case ho => rfl); (case hgd => rfl); (case hx => rfl); (case hg => (repeat (first | assumption | (exact setRow_heap _ _ _ _ _ _ (by assumption)) | (refine heap_at _ _ _ ?_; (first | rfl | (simp; done) | (simp <;> omega) | omega); done) | refine heap_drew' _ _ _ ?_ | (apply heap_past; (case hn => (first | rfl | (simp; done) | (simp <;> omega) | omega)))))); (case hu => exact Try.underlying24); (case hd => rfl); (case hi => exact sz514 _ _ _)) | (apply store_is (ty := 24); (case ho => rfl); (case hgd => rfl); (case hx => rfl); (case hy => rfl); (case h1 => exact rv_one _ _ _); (case hw => (repeat (first | (refine setRow_at _ _ _ _ _ ?_; (first | rfl | (simp; done) | (simp <;> omega) | omega); done) | apply setRow_drew_is | (apply setRow_past_is; (case hn => (first | rfl | (simp; done) | (simp <;> omega) | omega))) | exact rfl))); (case hg => (repeat (first | assumption | (exact setRow_heap _ _ _ _ _ _ (by assumption)) | (refine heap_at _ _ _ ?_; (first | rfl | (simp; done) | (simp <;> omega) | omega); done) | refine heap_drew' _ _ _ ?_ | (apply heap_past; (case hn => (first | rfl | (simp; done) | (simp <;> omega) | omega)))))); (case hi => exact sz514 _ _ _); (case hold => simp [rv_size])) | (apply build_is (t := 24); (case ho => rfl); (case hg => rfl); (case hf => (first | (rw [Array.toList_map]; exact built_vce2 _ _) | exact built_vce2 _ _))))
        refine bodyPost_ret (v := .agg (rv [c, t] 512 (madeF Z K))) ?_ rfl ⟨rfl, ?_⟩
        · (apply results_cell_row; (case h => rfl); (case hp => rfl); (case hg => (repeat (first | assumption | (exact setRow_heap _ _ _ _ _ _ (by assumption)) | (refine heap_at _ _ _ ?_; (first | rfl | (simp; done) | (simp <;> omega) | omega); done) | refine heap_drew' _ _ _ ?_ | (apply heap_past; (case hn => (first | rfl | (simp; done) | (simp <;> omega) | omega)))))); (case hu => exact Try.underlying24); (case hd => rfl); (case hi => exact sz514 _ _ _))
        · exact ((Up.refl w).alloc _).alloc _
theorem made_any (c t : Int) (a : Option Addr) (len cap : Nat) (Z : Nat → Int) (w : World) (h : OP.IsRow w a len cap Z) :
    Calls Try.prog 8 #[.int .i64 c, .int .i64 t, .slice a len cap] w fun e w' => e = .returned (.agg (rv [c, t] 512 (madeF Z (min len 512)))) ∧ Up w w' := by
  obtain ⟨h1, h2, h3, h4⟩ := h
  rcases h4 with rfl | ⟨b, off, rfl, hb, hc⟩
  · exact made_none c t a cap w
  · exact made_some c t b off len cap Z w (by omega) hb hc
theorem OP.IsRow.up {w w' : World} {a : Option Addr} {len cap : Nat} {Z : Nat → Int} (h : OP.IsRow w a len cap Z) (hu : Up w w') : OP.IsRow w' a len cap Z := by
  obtain ⟨h1, h2, h3, h4⟩ := h
  refine ⟨h1, h2, h3, ?_⟩
  rcases h4 with h4 | ⟨b, off, ha, hb, hc⟩
  · exact .inl h4
  · exact .inr ⟨b, off, ha, Nat.lt_of_lt_of_le hb hu.size, fun i hi => (hu.cell hb).trans (hc i hi)⟩
end Go.Proofs.Ytandoejbimihoaa
