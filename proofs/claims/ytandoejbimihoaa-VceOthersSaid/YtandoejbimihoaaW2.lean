/- The walk of the law VceOthers: it returns true. -/
import Derived.Test.YtandoejbimihoaaM
import Derived.Test.YtandoejbimihoaaE
import Derived.Test.YtandoejbimihoaaLD
import Derived.Deep.RegionHeld3
import Derived.Deep.QuietTactic
import Derived.BigQuiet
import Derived.Lib.Hide
namespace Go.Proofs.Ytandoejbimihoaa
open Go.RowKit
open RV
attribute [local go_sem ↓ high] to_ld514
attribute [local go_sem high] eq514_refl
attribute [local go_sem] run_ld514 rv2_get0 rv2_get1 BM.and511 BM.and255 zv514
set_option maxHeartbeats 8000000 in
set_option maxRecDepth 20000 in
theorem walk_vceOthers (w : World) (a : Option Addr) (len cap : Nat) (Z : Nat → Int) (hZ : OP.IsRow w a len cap Z) (k : Int) (_h1 : -9223372036854775808 ≤ k ∧ k ≤ 9223372036854775807) (b : Int) (_h2 : -9223372036854775808 ≤ b ∧ b ≤ 9223372036854775807) :
    Calls Try.prog 4 #[.slice a len cap, .int .i64 k, .int .i64 b] w fun e w' => e = .returned (.bool true) ∧ Below w.heap.size w w' := by
  obtain ⟨j, hk⟩ := Int.eq_ofNat_of_zero_le (show 0 ≤ k % 512 by omega)
  have hj0 : (0 : Int) ≤ (j : Int) := by omega
  have hj1 : (j : Int) < 512 := by omega
  have hj : j < 512 := by omega
  have hk2 : IntKind.i64.wrap (k + 1) % 512 = ((j : Int) + 1) % 512 := by rw [IntKind.wrap_i64]; omega
  obtain ⟨F, hF⟩ : ∃ F, madeF Z (min len 512) = F := ⟨_, rfl⟩
  have MA := Lib.hid (show ∀ w', Up w w' → Calls Try.prog 8 #[.int .i64 0, .int .i64 j, .slice a len cap] w' (fun e w'' => e = .returned (.agg (rv [0, (j : Int)] 512 F)) ∧ Up w' w'') from fun w' hu => by
    have h := made_any 0 j a len cap Z w' (hZ.up hu)
    rw [hF] at h; exact h)
  have hGj : upd F j (vLow (F j) (b % 256)) j = vLow (F j) (b % 256) := upd_same _ _ _
  have hGo : ∀ i, i ≠ j → upd F j (vLow (F j) (b % 256)) i = F i := fun i hi => upd_other _ _ _ _ hi
  have hv : vLow (F j) (b % 256) % 256 = b % 256 := by unfold vLow; omega
  obtain ⟨G, hG⟩ : ∃ G, upd F j (vLow (F j) (b % 256)) = G := ⟨_, rfl⟩
  have WR := Lib.hid (show ∀ w', Calls Try.prog 9 #[.agg (rv [0, (j : Int)] 512 F), .int .i64 4, .int .i64 b] w' (fun e w'' => e = .returned (.agg (rv [0, (j : Int)] 512 G)) ∧ Up w' w'') from fun w' => by
    have h := write_4up 0 j F b j (by omega) w'
    rw [hG] at h; exact h)
  rw [hG] at hGj hGo
  have GO := Lib.hid hGo
  have hGb : G j % 256 = b % 256 := by rw [hGj, hv]
  clear hF hG hGj hGo hv _h1 _h2 hZ
  go_enter Try.func4, Try.ntmps4
  go_wp2_with (first | (apply load_is (ty := 24); (case ho => rfl); (case hgd => rfl); (case hx => rfl); (case hg => (repeat (first | assumption | (exact setRow_heap _ _ _ _ _ _ (by assumption)) | (refine heap_at _ _ _ ?_; (first | rfl | (simp; done) | (simp <;> omega) | omega); done) | refine heap_drew' _ _ _ ?_ | (apply heap_past; (case hn => (first | rfl | (simp; done) | (simp <;> omega) | omega)))))); (case hu => exact Try.underlying24); (case hd => rfl); (case hi => exact sz514 _ _ _)) | (apply store_is (ty := 24); (case ho => rfl); (case hgd => rfl); (case hx => rfl); (case hy => rfl); (case h1 => exact rv_one _ _ _); (case hw => (repeat (first | (refine setRow_at _ _ _ _ _ ?_; (first | rfl | (simp; done) | (simp <;> omega) | omega); done) | apply setRow_drew_is | (apply setRow_past_is; (case hn => (first | rfl | (simp; done) | (simp <;> omega) | omega))) | exact rfl))); (case hg => (repeat (first | assumption | (exact setRow_heap _ _ _ _ _ _ (by assumption)) | (refine heap_at _ _ _ ?_; (first | rfl | (simp; done) | (simp <;> omega) | omega); done) | refine heap_drew' _ _ _ ?_ | (apply heap_past; (case hn => (first | rfl | (simp; done) | (simp <;> omega) | omega)))))); (case hi => exact sz514 _ _ _); (case hold => simp [rv_size])))
  refine (MA.out _ (Up.refl _)).mono ?_; rintro e w1 ⟨rfl, hU1⟩
  have z1 : w.heap.size ≤ w1.heap.size := by have := hU1.size; first | omega | (simp at this; omega)
  have hV1 : Up w w1 := Up.trans (by (repeat (first | exact Up.refl _ | assumption | refine Up.drew ?_ | refine Up.alloc ?_ _ | (refine Up.setRow ?_ (by first | omega | (simp <;> omega)) _)))) hU1
  clear hU1
  go_wp2_with (first | (apply load_is (ty := 24); (case ho => rfl); (case hgd => rfl); (case hx => rfl); (case hg => (repeat (first | assumption | (exact setRow_heap _ _ _ _ _ _ (by assumption)) | (refine heap_at _ _ _ ?_; (first | rfl | (simp; done) | (simp <;> omega) | omega); done) | refine heap_drew' _ _ _ ?_ | (apply heap_past; (case hn => (first | rfl | (simp; done) | (simp <;> omega) | omega)))))); (case hu => exact Try.underlying24); (case hd => rfl); (case hi => exact sz514 _ _ _)) | (apply store_is (ty := 24); (case ho => rfl); (case hgd => rfl); (case hx => rfl); (case hy => rfl); (case h1 => exact rv_one _ _ _); (case hw => (repeat (first | (refine setRow_at _ _ _ _ _ ?_; (first | rfl | (simp; done) | (simp <;> omega) | omega); done) | apply setRow_drew_is | (apply setRow_past_is; (case hn => (first | rfl | (simp; done) | (simp <;> omega) | omega))) | exact rfl))); (case hg => (repeat (first | assumption | (exact setRow_heap _ _ _ _ _ _ (by assumption)) | (refine heap_at _ _ _ ?_; (first | rfl | (simp; done) | (simp <;> omega) | omega); done) | refine heap_drew' _ _ _ ?_ | (apply heap_past; (case hn => (first | rfl | (simp; done) | (simp <;> omega) | omega)))))); (case hi => exact sz514 _ _ _); (case hold => simp [rv_size])))
  refine (WR.out _).mono ?_; rintro e w2 ⟨rfl, hU2⟩
  have q2_0 : w2.heap[w1.heap.size]? = some (.cells (rv [0, (j : Int)] 512 F) 24 (0, 0)) := (hU2.heap (by first | omega | (simp <;> omega))).trans (by (repeat (first | assumption | (exact setRow_heap _ _ _ _ _ _ (by assumption)) | (refine heap_at _ _ _ ?_; (first | rfl | (simp; done) | (simp <;> omega) | omega); done) | refine heap_drew' _ _ _ ?_ | (apply heap_past; (case hn => (first | rfl | (simp; done) | (simp <;> omega) | omega))))))
  have z2 : w1.heap.size ≤ w2.heap.size := by have := hU2.size; first | omega | (simp at this; omega)
  have l2_0 : w1.heap.size < w2.heap.size := lt_of_block q2_0
  have hV2 : Up w w2 := Up.trans (by (repeat (first | exact Up.refl _ | assumption | refine Up.drew ?_ | refine Up.alloc ?_ _ | (refine Up.setRow ?_ (by first | omega | (simp <;> omega)) _)))) hU2
  clear hU2
  clear hV1
  go_wp2_with (first | (apply load_is (ty := 24); (case ho => rfl); (case hgd => rfl); (case hx => rfl); (case hg => (repeat (first | assumption | (exact setRow_heap _ _ _ _ _ _ (by assumption)) | (refine heap_at _ _ _ ?_; (first | rfl | (simp; done) | (simp <;> omega) | omega); done) | refine heap_drew' _ _ _ ?_ | (apply heap_past; (case hn => (first | rfl | (simp; done) | (simp <;> omega) | omega)))))); (case hu => exact Try.underlying24); (case hd => rfl); (case hi => exact sz514 _ _ _)) | (apply store_is (ty := 24); (case ho => rfl); (case hgd => rfl); (case hx => rfl); (case hy => rfl); (case h1 => exact rv_one _ _ _); (case hw => (repeat (first | (refine setRow_at _ _ _ _ _ ?_; (first | rfl | (simp; done) | (simp <;> omega) | omega); done) | apply setRow_drew_is | (apply setRow_past_is; (case hn => (first | rfl | (simp; done) | (simp <;> omega) | omega))) | exact rfl))); (case hg => (repeat (first | assumption | (exact setRow_heap _ _ _ _ _ _ (by assumption)) | (refine heap_at _ _ _ ?_; (first | rfl | (simp; done) | (simp <;> omega) | omega); done) | refine heap_drew' _ _ _ ?_ | (apply heap_past; (case hn => (first | rfl | (simp; done) | (simp <;> omega) | omega)))))); (case hi => exact sz514 _ _ _); (case hold => simp [rv_size])))
  refine (read_5up 0 j G j (by omega) _).mono ?_; rintro e w3 ⟨rfl, hU3⟩
  have q3_0 : w3.heap[w1.heap.size]? = some (.cells (rv [0, (j : Int)] 512 F) 24 (0, 0)) := (hU3.heap (by first | omega | (simp <;> omega))).trans (by (repeat (first | assumption | (exact setRow_heap _ _ _ _ _ _ (by assumption)) | (refine heap_at _ _ _ ?_; (first | rfl | (simp; done) | (simp <;> omega) | omega); done) | refine heap_drew' _ _ _ ?_ | (apply heap_past; (case hn => (first | rfl | (simp; done) | (simp <;> omega) | omega))))))
  have q3_1 : w3.heap[w2.heap.size]? = some (.cells (rv [0, (j : Int)] 512 G) 24 (0, 0)) := (hU3.heap (by first | omega | (simp <;> omega))).trans (by (repeat (first | assumption | (exact setRow_heap _ _ _ _ _ _ (by assumption)) | (refine heap_at _ _ _ ?_; (first | rfl | (simp; done) | (simp <;> omega) | omega); done) | refine heap_drew' _ _ _ ?_ | (apply heap_past; (case hn => (first | rfl | (simp; done) | (simp <;> omega) | omega))))))
  have z3 : w2.heap.size ≤ w3.heap.size := by have := hU3.size; first | omega | (simp at this; omega)
  have l3_0 : w1.heap.size < w3.heap.size := lt_of_block q3_0
  have l3_1 : w2.heap.size < w3.heap.size := lt_of_block q3_1
  have hV3 : Up w w3 := Up.trans (by (repeat (first | exact Up.refl _ | assumption | refine Up.drew ?_ | refine Up.alloc ?_ _ | (refine Up.setRow ?_ (by first | omega | (simp <;> omega)) _)))) hU3
  clear hU3
  clear hV2
  clear q2_0
  go_wp2_with (first | (apply load_is (ty := 24); (case ho => rfl); (case hgd => rfl); (case hx => rfl); (case hg => (repeat (first | assumption | (exact setRow_heap _ _ _ _ _ _ (by assumption)) | (refine heap_at _ _ _ ?_; (first | rfl | (simp; done) | (simp <;> omega) | omega); done) | refine heap_drew' _ _ _ ?_ | (apply heap_past; (case hn => (first | rfl | (simp; done) | (simp <;> omega) | omega)))))); (case hu => exact Try.underlying24); (case hd => rfl); (case hi => exact sz514 _ _ _)) | (apply store_is (ty := 24); (case ho => rfl); (case hgd => rfl); (case hx => rfl); (case hy => rfl); (case h1 => exact rv_one _ _ _); (case hw => (repeat (first | (refine setRow_at _ _ _ _ _ ?_; (first | rfl | (simp; done) | (simp <;> omega) | omega); done) | apply setRow_drew_is | (apply setRow_past_is; (case hn => (first | rfl | (simp; done) | (simp <;> omega) | omega))) | exact rfl))); (case hg => (repeat (first | assumption | (exact setRow_heap _ _ _ _ _ _ (by assumption)) | (refine heap_at _ _ _ ?_; (first | rfl | (simp; done) | (simp <;> omega) | omega); done) | refine heap_drew' _ _ _ ?_ | (apply heap_past; (case hn => (first | rfl | (simp; done) | (simp <;> omega) | omega)))))); (case hi => exact sz514 _ _ _); (case hold => simp [rv_size])))
  have r7 : (w3.alloc (.cells (rv [0, ((j : Int) + 1) % 512] 512 G) 24)).heap[w1.heap.size]? = some (.cells (rv [0, (j : Int)] 512 F) 24 (0, 0)) := by (repeat (first | assumption | (exact setRow_heap _ _ _ _ _ _ (by assumption)) | (refine heap_at _ _ _ ?_; (first | rfl | (simp; done) | (simp <;> omega) | omega); done) | refine heap_drew' _ _ _ ?_ | (apply heap_past; (case hn => (first | rfl | (simp; done) | (simp <;> omega) | omega)))))
  have r8 : (w3.alloc (.cells (rv [0, ((j : Int) + 1) % 512] 512 G) 24)).heap[w2.heap.size]? = some (.cells (rv [0, (j : Int)] 512 G) 24 (0, 0)) := by (repeat (first | assumption | (exact setRow_heap _ _ _ _ _ _ (by assumption)) | (refine heap_at _ _ _ ?_; (first | rfl | (simp; done) | (simp <;> omega) | omega); done) | refine heap_drew' _ _ _ ?_ | (apply heap_past; (case hn => (first | rfl | (simp; done) | (simp <;> omega) | omega)))))
  have r10 : (w3.alloc (.cells (rv [0, ((j : Int) + 1) % 512] 512 G) 24)).heap[w3.heap.size]? = some (.cells (rv [0, ((j : Int) + 1) % 512] 512 G) 24 (0, 0)) := by (repeat (first | assumption | (exact setRow_heap _ _ _ _ _ _ (by assumption)) | (refine heap_at _ _ _ ?_; (first | rfl | (simp; done) | (simp <;> omega) | omega); done) | refine heap_drew' _ _ _ ?_ | (apply heap_past; (case hn => (first | rfl | (simp; done) | (simp <;> omega) | omega)))))
  have hUW : Up w (w3.alloc (.cells (rv [0, ((j : Int) + 1) % 512] 512 G) 24)) := hV3.alloc _
  generalize w3.alloc (.cells (rv [0, ((j : Int) + 1) % 512] 512 G) 24) = W0 at *
  clear MA WR q3_0 q3_1 hV3 z1 z2 z3
  have HUW := Lib.hid hUW
  clear hUW
  go_loopw [11] (fun i wr => ∃ n : Nat, n ≤ 512 ∧ i = .int .i64 n ∧ Up W0 wr) (fun i _ => 512 - (intOf i).toNat)
  case atStart => exact ⟨0, by omega, rfl, Up.refl _⟩
  case round =>
    obtain ⟨n, hn, rfl, hUr⟩ := hrel
    by_cases hlt : n < 512
    · have n0 : (0 : Int) ≤ (n : Int) := by omega
      have n1 : (n : Int) < 512 := by omega
      have c7 : wr.cell? ⟨w1.heap.size, 2 + n, none⟩ = some (.int .i64 (F n)) := (hUr.cell (lt_of_block r7)).trans ((cell_of_row _ _ _ _ _ _ r7).trans (rv2_get _ _ _ _ _ hlt))
      have c8 : wr.cell? ⟨w2.heap.size, 2 + n, none⟩ = some (.int .i64 (G n)) := (hUr.cell (lt_of_block r8)).trans ((cell_of_row _ _ _ _ _ _ r8).trans (rv2_get _ _ _ _ _ hlt))
      have c10 : wr.cell? ⟨w3.heap.size, 2 + n, none⟩ = some (.int .i64 (G n)) := (hUr.cell (lt_of_block r10)).trans ((cell_of_row _ _ _ _ _ _ r10).trans (rv2_get _ _ _ _ _ hlt))
      have HUr := Lib.hid hUr
      clear hUr r7 r8 r10
      by_cases hnj : n = j
      · have hb : ((n : Int) != (j : Int)) = false := by rw [hnj]; simp
        clear hnj
        go_wp2_with fail
        go_quiet (fail)
        go_wp2_with fail
        go_roundw
        case rel => exact ⟨n + 1, by omega, by go_num, HUr.out.drewN _⟩
        case measure => simp [intOf]; omega
      · have hb : ((n : Int) != (j : Int)) = true := by rw [bne_iff_ne]; omega
        have hg : (G n != F n) = false := by rw [GO.out n hnj]; simp
        clear hnj
        go_wp2_with fail
        go_quiet (fail)
        go_wp2_with fail
        go_roundw
        case rel => exact ⟨n + 1, by omega, by go_num, HUr.out.drewN _⟩
        case measure => simp [intOf]; omega
    · obtain rfl : n = 512 := by omega
      have q7 : wr.heap[w1.heap.size]? = some (.cells (rv [0, (j : Int)] 512 F) 24 (0, 0)) := (hUr.heap (lt_of_block r7)).trans r7
      have q8 : wr.heap[w2.heap.size]? = some (.cells (rv [0, (j : Int)] 512 G) 24 (0, 0)) := (hUr.heap (lt_of_block r8)).trans r8
      have q10 : wr.heap[w3.heap.size]? = some (.cells (rv [0, ((j : Int) + 1) % 512] 512 G) 24 (0, 0)) := (hUr.heap (lt_of_block r10)).trans r10
      have KS := Lib.hid (show ∀ w', Up wr w' → (Up wr w' ∧ w'.cell? ⟨w2.heap.size, 2 + j, none⟩ = some (.int .i64 (G j)) ∧ w'.cell? ⟨w3.heap.size, 1, none⟩ = some (.int .i64 (((j : Int) + 1) % 512)) ∧ RowOK 514 w' w1.heap.size ∧ rowOf w' w1.heap.size = rv [0, (j : Int)] 512 F) from fun w' h =>
        ⟨h, (cell_of_row _ _ _ _ _ _ ((h.heap (lt_of_block q8)).trans q8)).trans (rv2_get _ _ _ _ _ hj), (cell_of_row _ _ _ _ _ _ ((h.heap (lt_of_block q10)).trans q10)).trans (rv2_get1 _ _ _ _), RowOK.of ((h.heap (lt_of_block q7)).trans q7) (rv_size _ _ _), rowOf_eq ((h.heap (lt_of_block q7)).trans q7)⟩)
      have HF := Lib.hid (HUW.out.trans hUr)
      have hGb' : (G j % 256 == b % 256) = true := beq_iff_eq.2 hGb
      have WC := Lib.hid (show ∀ (at0 : Int), at0 = 1 ∨ at0 = 7 → ∀ w', Calls Try.prog 9 #[.agg (rv [0, (j : Int)] 512 F), .int .i64 at0, .int .i64 b] w' (fun e w'' => e = .returned (.agg (rv [0, (j : Int)] 512 F)) ∧ Up w' w'') from fun at0 h w' => write_17 0 j F at0 b h w')
      clear hUr q7 q8 q10 r7 r8 r10 GO
      obtain ⟨_, s8, s10, s7, s7'⟩ := KS.out wr (Up.refl _)
      go_wp2_with fail
      go_region_held3 (fun w' => (Up wr w' ∧ w'.cell? ⟨w2.heap.size, 2 + j, none⟩ = some (.int .i64 (G j)) ∧ w'.cell? ⟨w3.heap.size, 1, none⟩ = some (.int .i64 (((j : Int) + 1) % 512)) ∧ RowOK 514 w' w1.heap.size ∧ rowOf w' w1.heap.size = rv [0, (j : Int)] 512 F)) (exact KS.out _ (by first | assumption | exact Up.refl _ | exact Up.drew (Up.refl _))) (first | (go_at_call 9; refine (WC.out _ (by decide) _).mono ?_; rintro e w5 ⟨rfl, hB5⟩; have hP5 : Up wr w5 := (by first | exact Up.trans (by assumption) hB5 | exact Up.trans (Up.drew (Up.refl wr)) hB5)))
      have hP6 := (‹Up wr w5 ∧ _›).1
      go_wp2_with fail
      go_ret
      exact ⟨rfl, HF.out.trans hP6⟩
end Go.Proofs.Ytandoejbimihoaa
