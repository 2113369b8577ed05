/- Contracts of the functions of the package regs that give rows. -/
import Derived.Test.YthlacommhklkkaaBC
import Derived.Test.YthlacommhklkkaaRV
import Derived.Test.YthlacommhklkkaaPW
import Derived.Test.YthlacommhklkkaaP
import Derived.LoopN
import Derived.StillTailTactics
import Derived.Deep.RegionHeld3
namespace Go.Proofs.Ythlacommhklkkaa
open Go.RowKit
open RV

def MK : Nat → Int := fun j => maskL.getD j 0
theorem mk_rng (j : Nat) (hj : j < 20) : 0 ≤ MK j ∧ MK j ≤ 65535 := maskL_rng j hj
theorem lit_zero : (#[.int .i64 0, .int .i64 0, .int .i64 0, .int .i64 0, .int .i64 0, .int .i64 0, .int .i64 0, .int .i64 0, .int .i64 0, .int .i64 0, .int .i64 0, .int .i64 0, .int .i64 0, .int .i64 0, .int .i64 0, .int .i64 0, .int .i64 0, .int .i64 0, .int .i64 0, .int .i64 0, .int .i64 0] : Array Value) = rv [0] 20 (fun _ => 0) := by rfl
theorem size20 : (Try.prog.info? 22).map (·.size) = some 20 := by kernel_rfl
theorem size21 : (Try.prog.info? 24).map (·.size) = some 21 := by kernel_rfl
theorem rv_size20 (F : Nat → Int) : (rv [] 20 F).size = 20 := rv_size _ _ _
theorem rv_size21 (s : Int) (F : Nat → Int) : (rv [s] 20 F).size = 21 := rv_size _ _ _
theorem lit_zeros : (#[.int .i64 0, .int .i64 0, .int .i64 0, .int .i64 0, .int .i64 0, .int .i64 0, .int .i64 0, .int .i64 0, .int .i64 0, .int .i64 0, .int .i64 0, .int .i64 0, .int .i64 0, .int .i64 0, .int .i64 0, .int .i64 0, .int .i64 0, .int .i64 0, .int .i64 0, .int .i64 0] : Array Value) = rv [] 20 (fun _ => 0) := by rfl
theorem zero21 : (Try.prog.info? 24).map (·.zero) = some (some (.agg #[.int .i64 0, .int .i64 0, .int .i64 0, .int .i64 0, .int .i64 0, .int .i64 0, .int .i64 0, .int .i64 0, .int .i64 0, .int .i64 0, .int .i64 0, .int .i64 0, .int .i64 0, .int .i64 0, .int .i64 0, .int .i64 0, .int .i64 0, .int .i64 0, .int .i64 0, .int .i64 0, .int .i64 0])) := by kernel_rfl
theorem zero20 : (Try.prog.info? 22).map (·.zero) = some (some (.agg #[.int .i64 0, .int .i64 0, .int .i64 0, .int .i64 0, .int .i64 0, .int .i64 0, .int .i64 0, .int .i64 0, .int .i64 0, .int .i64 0, .int .i64 0, .int .i64 0, .int .i64 0, .int .i64 0, .int .i64 0, .int .i64 0, .int .i64 0, .int .i64 0, .int .i64 0, .int .i64 0])) := by kernel_rfl
theorem places21 : ∀ fs, Try.prog.underlying 24 = some (.struct fs) → fs.toList.mapM (fun f => (Try.prog.info? f.type).map fun i => (f.offset, i.size)) = some [(0, 1), (1, 20)] := by
  intro fs h; rw [Try.underlying24] at h; injection h with h; injection h with h; subst h; kernel_rfl
theorem built_regs (s : Int) (F : Nat → Int) : Try.prog.built 24 [(0, .int .i64 s), (1, .agg (rv [] 20 F))] = some (rv [s] 20 F) := by
  obtain ⟨it, hi⟩ := Option.isSome_iff_exists.1 (show (Try.prog.info? 24).isSome = true by kernel_rfl)
  have hz := zero21
  rw [hi, lit_zero] at hz
  simp only [Option.map_some, Option.some.injEq] at hz
  exact built_one 24 it _ 20 s F hi Try.underlying24 hz (places21 _ Try.underlying24)
theorem built_none : Try.prog.built 24 [] = some (rv [0] 20 fun _ => 0) := by
  rw [← lit_zero]; kernel_rfl
theorem int_size : (Try.prog.info? 3).map (·.size) = some 1 := by kernel_rfl
theorem built_20 (parts : List (Nat × Value)) : Try.prog.built 22 parts = Instr.fill (fun i => some (i * 1, 1)) (rv [] 20 fun _ => 0) parts := by
  obtain ⟨it, hi⟩ := Option.isSome_iff_exists.1 (show (Try.prog.info? 22).isSome = true by kernel_rfl)
  obtain ⟨ie, he⟩ := Option.isSome_iff_exists.1 (show (Try.prog.info? 3).isSome = true by kernel_rfl)
  have hz := zero20
  have h1 := int_size
  rw [hi, lit_zeros] at hz
  rw [he] at h1
  simp only [Option.map_some, Option.some.injEq] at hz h1
  exact built_array 22 3 it ie 20 parts hi Try.underlying22 hz he h1
def LM : List (Nat × Value) := [(0, .int .i64 65535), (1, .int .i64 65535), (2, .int .i64 65535), (3, .int .i64 0), (4, .int .i64 0), (5, .int .i64 8191), (6, .int .i64 1023), (7, .int .i64 1023), (8, .int .i64 511), (9, .int .i64 255), (10, .int .i64 32543), (11, .int .i64 32639), (12, .int .i64 65311), (13, .int .i64 511), (14, .int .i64 255), (15, .int .i64 31), (16, .int .i64 65535), (17, .int .i64 65535), (18, .int .i64 65535), (19, .int .i64 65535)]
theorem built_masks : Try.prog.built 22 LM = some (rv [] 20 MK) := by
  rw [built_20]
  simp only [LM]
  repeat rw [fill_int _ _ _ _ _ (by decide)]
  rw [fill_done]
  exact congrArg some (rv_congr _ _ _ _ (by decide))
theorem sz20 (F : Nat → Int) : (Try.prog.info? 22).map (·.size) = some (rv [] 20 F).size := by rw [rv_size20]; exact size20
theorem sz21 (s : Int) (F : Nat → Int) : (Try.prog.info? 24).map (·.size) = some (rv [s] 20 F).size := by rw [rv_size21]; exact size21

theorem masks_any (w : World) : Calls Try.prog 24 #[] w fun e w' => e = .returned (.agg (rv [] 20 MK)) ∧ Up w w' := by
  go_enter Try.func24, Try.ntmps24
  go_wp2_with (first | (refine build_is rfl 22 _ rfl (rv [] 20 MK) ?hf ?_; (case hf => (rw [Array.toList_map]; exact built_masks))) | (refine wpList_store_row rfl 22 _ _ rfl _ _ rfl rfl _ _ (heap_alloc_new _ _) (sz20 _) (by rw [rv_size20]; rfl) (rv_one _ _ _) ?_))
  rw [setRow_at _ _ _ _ _ rfl]
  refine bodyPost_ret (v := .agg (rv [] 20 MK)) ?_ rfl ⟨rfl, ?_⟩
  · exact results_cell_row rfl _ _ _ _ _ _ _ rfl (heap_alloc_new _ _) Try.underlying22 rfl (sz20 _)
  · exact (Up.refl w).alloc _
attribute [local go_sem] rv1_set0 rv1_set rv1_get0 rv1_get rv0_get BM.and31
theorem fresh_any (w : World) : Calls Try.prog 12 #[] w fun e w' => e = .returned (.agg (rv [0] 20 fun _ => 0)) ∧ Up w w' := by
  go_enter Try.func12, Try.ntmps12
  go_wp2_with (first | (apply build_is (t := 24); (case ho => rfl); (case hg => rfl); (case hf => (first | exact built_none | (rw [Array.toList_map]; exact built_none)))) | (apply store_is (ty := 24); (case ho => rfl); (case hgd => rfl); (case hx => rfl); (case hy => rfl); (case h1 => exact rv_one _ _ _); (case hw => (repeat (first | (refine setRow_at _ _ _ _ _ ?_; (first | rfl | (simp; done) | (simp <;> omega) | omega); done) | refine setRow_drew_is _ _ _ _ ?_ | (apply setRow_past_is; (case hn => (first | rfl | (simp; done) | (simp <;> omega) | omega))) | exact rfl))); (case hg => (repeat (first | assumption | (exact setRow_heap _ _ _ _ _ _ (by assumption)) | (refine heap_at _ _ _ ?_; (first | rfl | (simp; done) | (simp <;> omega) | omega); done) | refine heap_drew' _ _ _ ?_ | (apply heap_past; (case hn => (first | rfl | (simp; done) | (simp <;> omega) | omega)))))); (case hi => exact sz21 _ _); (case hold => simp [rv_size])))
  refine bodyPost_ret (v := .agg (rv [0] 20 fun _ => 0)) ?_ rfl ⟨rfl, ?_⟩
  · (apply results_cell_row; (case h => rfl); (case hp => rfl); (case hg => (repeat (first | assumption | (exact setRow_heap _ _ _ _ _ _ (by assumption)) | (refine heap_at _ _ _ ?_; (first | rfl | (simp; done) | (simp <;> omega) | omega); done) | refine heap_drew' _ _ _ ?_ | (apply heap_past; (case hn => (first | rfl | (simp; done) | (simp <;> omega) | omega)))))); (case hu => exact Try.underlying24); (case hd => rfl); (case hi => exact sz21 _ _))
  · exact (Up.refl w).alloc _
theorem write_sel (s b : Int) (F : Nat → Int) (w : World) : Calls Try.prog 11 #[.agg (rv [s] 20 F), .int .i64 0, .int .i64 b] w fun e w' => e = .returned (.tuple #[.agg (rv [b % 32] 20 F), .int .i64 0]) ∧ Up w w' := by
  go_enter Try.func11, Try.ntmps11
  go_wp2_with (first | (apply load_is (ty := 24); (case ho => rfl); (case hgd => rfl); (case hx => rfl); (case hg => (repeat (first | assumption | (exact setRow_heap _ _ _ _ _ _ (by assumption)) | (refine heap_at _ _ _ ?_; (first | rfl | (simp; done) | (simp <;> omega) | omega); done) | refine heap_drew' _ _ _ ?_ | (apply heap_past; (case hn => (first | rfl | (simp; done) | (simp <;> omega) | omega)))))); (case hu => exact Try.underlying24); (case hd => rfl); (case hi => exact sz21 _ _)) | (apply store_is (ty := 24); (case ho => rfl); (case hgd => rfl); (case hx => rfl); (case hy => rfl); (case h1 => exact rv_one _ _ _); (case hw => (repeat (first | (refine setRow_at _ _ _ _ _ ?_; (first | rfl | (simp; done) | (simp <;> omega) | omega); done) | refine setRow_drew_is _ _ _ _ ?_ | (apply setRow_past_is; (case hn => (first | rfl | (simp; done) | (simp <;> omega) | omega))) | exact rfl))); (case hg => (repeat (first | assumption | (exact setRow_heap _ _ _ _ _ _ (by assumption)) | (refine heap_at _ _ _ ?_; (first | rfl | (simp; done) | (simp <;> omega) | omega); done) | refine heap_drew' _ _ _ ?_ | (apply heap_past; (case hn => (first | rfl | (simp; done) | (simp <;> omega) | omega)))))); (case hi => exact sz21 _ _); (case hold => simp [rv_size])))
  refine bodyPost_ret (v := .tuple #[.agg (rv [b % 32] 20 F), .int .i64 0]) ?_ rfl ⟨rfl, ?_⟩
  · (apply results_row_tmp; (case h => rfl); (case hp => rfl); (case hr => rfl); (case hg => (repeat (first | assumption | (exact setRow_heap _ _ _ _ _ _ (by assumption)) | (refine heap_at _ _ _ ?_; (first | rfl | (simp; done) | (simp <;> omega) | omega); done) | refine heap_drew' _ _ _ ?_ | (apply heap_past; (case hn => (first | rfl | (simp; done) | (simp <;> omega) | omega)))))); (case hu => exact Try.underlying24); (case hd => rfl); (case hi => exact sz21 _ _))
  · exact ((Up.refl w).alloc _).alloc _
def vEff (s : Int) (high : Bool) : Int := if s = 0 then 1 else if s = 2 then (if high = true then 4 else 3) else if high = false then 0 else if s = 1 then 2 else if s = 5 then 5 else if s = 18 then 6 else if s = 19 then 7 else 0
theorem effect_any (s : Int) (high : Bool) (w : World) : Calls Try.prog 25 #[.int .i64 s, .bool high] w fun e w' => e = .returned (.int .i64 (vEff s high)) ∧ w = w' := by
  have hs : s = 0 ∨ s = 1 ∨ s = 2 ∨ s = 5 ∨ s = 18 ∨ s = 19 ∨ ((s == 0) = false ∧ (s == 1) = false ∧ (s == 2) = false ∧ (s == 5) = false ∧ (s == 18) = false ∧ (s == 19) = false) := by simp only [beq_eq_false_iff_ne]; omega
  rcases hs with rfl | rfl | rfl | rfl | rfl | rfl | ⟨h0, h1, h2, h5, h8, h9⟩
  all_goals cases high
  all_goals (go_enter Try.func25, Try.ntmps25; go_wp2_with fail; go_ret; refine ⟨ret_int ?_, rfl⟩; first | rfl | (simp only [beq_eq_false_iff_ne] at *; simp [vEff, *]))
theorem write_none (s at0 b : Int) (F : Nat → Int) (w : World) (h : (at0 == 0) = false) (h2 : (at0 == 2) = false) (h3 : (at0 == 3) = false) : Calls Try.prog 11 #[.agg (rv [s] 20 F), .int .i64 at0, .int .i64 b] w fun e w' => e = .returned (.tuple #[.agg (rv [s] 20 F), .int .i64 0]) ∧ Up w w' := by
  have h2' : (at0 != 2) = true := by simpa using h2
  have h3' : (at0 != 3) = true := by simpa using h3
  go_enter Try.func11, Try.ntmps11
  go_wp2_with (first | (apply load_is (ty := 24); (case ho => rfl); (case hgd => rfl); (case hx => rfl); (case hg => (repeat (first | assumption | (exact setRow_heap _ _ _ _ _ _ (by assumption)) | (refine heap_at _ _ _ ?_; (first | rfl | (simp; done) | (simp <;> omega) | omega); done) | refine heap_drew' _ _ _ ?_ | (apply heap_past; (case hn => (first | rfl | (simp; done) | (simp <;> omega) | omega)))))); (case hu => exact Try.underlying24); (case hd => rfl); (case hi => exact sz21 _ _)) | (apply store_is (ty := 24); (case ho => rfl); (case hgd => rfl); (case hx => rfl); (case hy => rfl); (case h1 => exact rv_one _ _ _); (case hw => (repeat (first | (refine setRow_at _ _ _ _ _ ?_; (first | rfl | (simp; done) | (simp <;> omega) | omega); done) | refine setRow_drew_is _ _ _ _ ?_ | (apply setRow_past_is; (case hn => (first | rfl | (simp; done) | (simp <;> omega) | omega))) | exact rfl))); (case hg => (repeat (first | assumption | (exact setRow_heap _ _ _ _ _ _ (by assumption)) | (refine heap_at _ _ _ ?_; (first | rfl | (simp; done) | (simp <;> omega) | omega); done) | refine heap_drew' _ _ _ ?_ | (apply heap_past; (case hn => (first | rfl | (simp; done) | (simp <;> omega) | omega)))))); (case hi => exact sz21 _ _); (case hold => simp [rv_size])))
  refine bodyPost_ret (v := .tuple #[.agg (rv [s] 20 F), .int .i64 0]) ?_ rfl ⟨rfl, ?_⟩
  · (apply results_row_tmp; (case h => rfl); (case hp => rfl); (case hr => rfl); (case hg => (repeat (first | assumption | (exact setRow_heap _ _ _ _ _ _ (by assumption)) | (refine heap_at _ _ _ ?_; (first | rfl | (simp; done) | (simp <;> omega) | omega); done) | refine heap_drew' _ _ _ ?_ | (apply heap_past; (case hn => (first | rfl | (simp; done) | (simp <;> omega) | omega)))))); (case hu => exact Try.underlying24); (case hd => rfl); (case hi => exact sz21 _ _))
  · exact ((Up.refl w).alloc _).alloc _
theorem write_far (s at0 b : Int) (F : Nat → Int) (w : World) (ha : at0 = 2 ∨ at0 = 3) (hs : s < 0 ∨ 20 ≤ s) : Calls Try.prog 11 #[.agg (rv [s] 20 F), .int .i64 at0, .int .i64 b] w fun e w' => e = .returned (.tuple #[.agg (rv [s] 20 F), .int .i64 0]) ∧ Up w w' := by
  have hb : decide (s < 0) = true ∨ (decide (s < 0) = false ∧ decide (20 ≤ s) = true) := by simp only [decide_eq_true_eq, decide_eq_false_iff_not]; omega
  clear hs
  rcases ha with rfl | rfl <;> rcases hb with hb | ⟨hb, hc⟩
  all_goals
    (go_enter Try.func11, Try.ntmps11
     go_wp2_with (first | (apply load_is (ty := 24); (case ho => rfl); (case hgd => rfl); (case hx => rfl); (case hg => (repeat (first | assumption | (exact setRow_heap _ _ _ _ _ _ (by assumption)) | (refine heap_at _ _ _ ?_; (first | rfl | (simp; done) | (simp <;> omega) | omega); done) | refine heap_drew' _ _ _ ?_ | (apply heap_past; (case hn => (first | rfl | (simp; done) | (simp <;> omega) | omega)))))); (case hu => exact Try.underlying24); (case hd => rfl); (case hi => exact sz21 _ _)) | (apply store_is (ty := 24); (case ho => rfl); (case hgd => rfl); (case hx => rfl); (case hy => rfl); (case h1 => exact rv_one _ _ _); (case hw => (repeat (first | (refine setRow_at _ _ _ _ _ ?_; (first | rfl | (simp; done) | (simp <;> omega) | omega); done) | refine setRow_drew_is _ _ _ _ ?_ | (apply setRow_past_is; (case hn => (first | rfl | (simp; done) | (simp <;> omega) | omega))) | exact rfl))); (case hg => (repeat (first | assumption | (exact setRow_heap _ _ _ _ _ _ (by assumption)) | (refine heap_at _ _ _ ?_; (first | rfl | (simp; done) | (simp <;> omega) | omega); done) | refine heap_drew' _ _ _ ?_ | (apply heap_past; (case hn => (first | rfl | (simp; done) | (simp <;> omega) | omega)))))); (case hi => exact sz21 _ _); (case hold => simp [rv_size])))
     refine bodyPost_ret (v := .tuple #[.agg (rv [s] 20 F), .int .i64 0]) ?_ rfl ⟨rfl, ?_⟩
     · (apply results_row_tmp; (case h => rfl); (case hp => rfl); (case hr => rfl); (case hg => (repeat (first | assumption | (exact setRow_heap _ _ _ _ _ _ (by assumption)) | (refine heap_at _ _ _ ?_; (first | rfl | (simp; done) | (simp <;> omega) | omega); done) | refine heap_drew' _ _ _ ?_ | (apply heap_past; (case hn => (first | rfl | (simp; done) | (simp <;> omega) | omega)))))); (case hu => exact Try.underlying24); (case hd => rfl); (case hi => exact sz21 _ _))
     · exact ((Up.refl w).alloc _).alloc _)
theorem int3 : Try.prog.underlying 3 = some (.int .i64) := by kernel_rfl
theorem idx20 (j : Nat) (F : Nat → Int) (w : World) (hj0 : (0 : Int) ≤ (j : Int)) (hj : (j : Int) < 20) : (Instr.index 22 (.agg (rv [] 20 F)) (.int .i64 j)).run Try.prog w = .ok (.int .i64 (F j)) w := by
  have h1 : (Try.prog.info? 3).map (·.size) = some 1 := int_size
  obtain ⟨ie, he⟩ := Option.isSome_iff_exists.1 (show (Try.prog.info? 3).isSome = true by kernel_rfl)
  rw [he] at h1
  simp only [Option.map_some, Option.some.injEq] at h1
  have hn : j < 20 := by omega
  simp [Instr.index, asIntOf, run_underlying Try.underlying22, hn, sizeOf, typeInfo, he, h1, part, isAgg, run_underlying int3, rv0_get 20 j F (by omega)]
attribute [local go_sem] idx20
theorem write_low (j : Nat) (hj : j < 20) (b : Int) (F : Nat → Int) (w : World) : Calls Try.prog 11 #[.agg (rv [(j : Int)] 20 F), .int .i64 2, .int .i64 b] w
    fun e w' => e = .returned (.tuple #[.agg (rv [(j : Int)] 20 (upd F j (bits .and .i64 (b % 256 + 256 * (F j / 256 % 256)) (MK j)))), .int .i64 (vEff j false)]) ∧ Up w w' := by
  have hj0 : (0 : Int) ≤ (j : Int) := by omega
  have hj1 : (j : Int) < 20 := by omega
  have hb0 : decide ((j : Int) < 0) = false := decide_eq_false (by omega)
  have hb1 : decide (20 ≤ (j : Int)) = false := decide_eq_false (by omega)
  go_enter Try.func11, Try.ntmps11
  go_wp2_with (first | (first | (apply load_is (ty := 24); (case ho => rfl); (case hgd => rfl); (case hx => rfl); (case hg => (repeat (first | assumption | (exact setRow_heap _ _ _ _ _ _ (by assumption)) | (refine heap_at _ _ _ ?_; (first | rfl | (simp; done) | (simp <;> omega) | omega); done) | refine heap_drew' _ _ _ ?_ | (apply heap_past; (case hn => (first | rfl | (simp; done) | (simp <;> omega) | omega)))))); (case hu => exact Try.underlying24); (case hd => rfl); (case hi => exact sz21 _ _)) | (apply store_is (ty := 24); (case ho => rfl); (case hgd => rfl); (case hx => rfl); (case hy => rfl); (case h1 => exact rv_one _ _ _); (case hw => (repeat (first | (refine setRow_at _ _ _ _ _ ?_; (first | rfl | (simp; done) | (simp <;> omega) | omega); done) | refine setRow_drew_is _ _ _ _ ?_ | (apply setRow_past_is; (case hn => (first | rfl | (simp; done) | (simp <;> omega) | omega))) | exact rfl))); (case hg => (repeat (first | assumption | (exact setRow_heap _ _ _ _ _ _ (by assumption)) | (refine heap_at _ _ _ ?_; (first | rfl | (simp; done) | (simp <;> omega) | omega); done) | refine heap_drew' _ _ _ ?_ | (apply heap_past; (case hn => (first | rfl | (simp; done) | (simp <;> omega) | omega)))))); (case hi => exact sz21 _ _); (case hold => simp [rv_size]))) | (go_at_call 22; refine (split_any _ _).mono ?_; rintro e w' ⟨rfl, rfl⟩))
  have hP : PW w w.heap.size 24 (j : Int) 20 F j (w.heap.size + 1) (.cells #[.int .i64 0, .int .i64 0, .int .i64 0, .int .i64 0, .int .i64 0, .int .i64 0, .int .i64 0, .int .i64 0, .int .i64 0, .int .i64 0, .int .i64 0, .int .i64 0, .int .i64 0, .int .i64 0, .int .i64 0, .int .i64 0, .int .i64 0, .int .i64 0, .int .i64 0, .int .i64 0, .int .i64 0] 24) ((w.alloc (.cells (rv [(j : Int)] 20 F) 24)).alloc (.cells #[.int .i64 0, .int .i64 0, .int .i64 0, .int .i64 0, .int .i64 0, .int .i64 0, .int .i64 0, .int .i64 0, .int .i64 0, .int .i64 0, .int .i64 0, .int .i64 0, .int .i64 0, .int .i64 0, .int .i64 0, .int .i64 0, .int .i64 0, .int .i64 0, .int .i64 0, .int .i64 0, .int .i64 0] 24)) := PW.first (((Up.refl w).alloc _).alloc _) (by (repeat (first | assumption | (exact setRow_heap _ _ _ _ _ _ (by assumption)) | (refine heap_at _ _ _ ?_; (first | rfl | (simp; done) | (simp <;> omega) | omega); done) | refine heap_drew' _ _ _ ?_ | (apply heap_past; (case hn => (first | rfl | (simp; done) | (simp <;> omega) | omega)))))) (by (repeat (first | assumption | (exact setRow_heap _ _ _ _ _ _ (by assumption)) | (refine heap_at _ _ _ ?_; (first | rfl | (simp; done) | (simp <;> omega) | omega); done) | refine heap_drew' _ _ _ ?_ | (apply heap_past; (case hn => (first | rfl | (simp; done) | (simp <;> omega) | omega))))))
  obtain ⟨Z, hZ⟩ : ∃ Z : Obj, Z = .cells #[.int .i64 0, .int .i64 0, .int .i64 0, .int .i64 0, .int .i64 0, .int .i64 0, .int .i64 0, .int .i64 0, .int .i64 0, .int .i64 0, .int .i64 0, .int .i64 0, .int .i64 0, .int .i64 0, .int .i64 0, .int .i64 0, .int .i64 0, .int .i64 0, .int .i64 0, .int .i64 0, .int .i64 0] 24 := ⟨_, rfl⟩
  rw [← hZ] at hP ⊢
  generalize (w.alloc (.cells (rv [(j : Int)] 20 F) 24)).alloc Z = W0 at *
  obtain ⟨_, z0, z1, zf⟩ := hP.all hj
  go_region_held3 (fun w' => PW w w.heap.size 24 (j : Int) 20 F j (w.heap.size + 1) Z w' ∧ w'.cell? ⟨w.heap.size, 0, none⟩ = some (.int .i64 j) ∧ w'.cell? ⟨w.heap.size, 1 + j, none⟩ = some (heldAt w' ⟨w.heap.size, 1 + j, none⟩) ∧ w'.frozen? ⟨w.heap.size, 1 + j, none⟩ = false) (exact PW.all (by first | assumption | exact PW.drew (by assumption) | exact PW.store (by assumption) (Nat.le_refl _) (by omega) _) hj) (first | (go_at_call 23; refine (join_any _ _ _).mono ?_; rintro e w3 ⟨rfl, hB3⟩; have hP3 : PW w w.heap.size 24 (j : Int) 20 F j (w.heap.size + 1) Z w3 := (by first | exact PW.later (by assumption) hB3 | exact PW.later (PW.drew (by assumption)) hB3)) | (go_at_call 24; refine (masks_any _).mono ?_; rintro e w3 ⟨rfl, hB3⟩; have hP3 : PW w w.heap.size 24 (j : Int) 20 F j (w.heap.size + 1) Z w3 := (by first | exact PW.later (by assumption) hB3 | exact PW.later (PW.drew (by assumption)) hB3)))
  have hrow := hP3.row_store (bits .and .i64 (b % 256 + 256 * (F j / 256 % 256)) (MK j))
  have hPs := hP3.store (Nat.le_refl _) (by omega) (bits .and .i64 (b % 256 + 256 * (F j / 256 % 256)) (MK j))
  have hup := hPs.up
  have hres := hPs.res
  subst hZ
  clear hPs hP3 hB3 hP
  generalize w3.setCell ⟨w.heap.size, 1 + j, none⟩ (.int .i64 (bits .and .i64 (b % 256 + 256 * (F j / 256 % 256)) (MK j))) = W1 at *
  have c0 : W1.cell? ⟨w.heap.size, 0, none⟩ = some (.int .i64 j) := (cell_of_row _ _ _ _ _ _ hrow).trans (rv1_get0 _ _ _)
  go_wp2_with fail
  refine wp_region_still_tail 6 (by kernel_rfl) (by kernel_rfl) ?_
  simp only [List.take_succ_cons, List.take_zero, List.drop_succ_cons, List.drop_zero]
  change wpStill _ _ W1.drew (fun a' => wpList _ _ _ _ a' W1.drew) _ _
  have hrow' : W1.drew.heap[w.heap.size]? = _ := hrow
  have hres' : W1.drew.heap[w.heap.size + 1]? = _ := hres
  have hup' := hup.drew
  have c0' : W1.drew.cell? ⟨w.heap.size, 0, none⟩ = some (.int .i64 j) := c0
  clear hrow hres hup c0
  generalize W1.drew = W2 at *
  (apply still_load_row (ty := 24); (case ho => rfl); (case hgd => rfl); (case hx => rfl); (case hg => (repeat (first | assumption | (exact setRow_heap _ _ _ _ _ _ (by assumption)) | (refine heap_at _ _ _ ?_; (first | rfl | (simp; done) | (simp <;> omega) | omega); done) | refine heap_drew' _ _ _ ?_ | (apply heap_past; (case hn => (first | rfl | (simp; done) | (simp <;> omega) | omega)))))); (case hu => exact Try.underlying24); (case hd => rfl); (case hi => exact sz21 _ _))
  repeat still_step
  still_call ((effect_any _ _ _).mono (fun e w' h => ⟨h.1, h.2.symm⟩))
  refine wpStill_nil ?_
  go_wp2_with (apply store_is (ty := 24); (case ho => rfl); (case hgd => rfl); (case hx => rfl); (case hy => rfl); (case h1 => exact rv_one _ _ _); (case hw => (repeat (first | (refine setRow_at _ _ _ _ _ ?_; (first | rfl | (simp; done) | (simp <;> omega) | omega); done) | refine setRow_drew_is _ _ _ _ ?_ | (apply setRow_past_is; (case hn => (first | rfl | (simp; done) | (simp <;> omega) | omega))) | exact rfl))); (case hg => (repeat (first | assumption | (exact setRow_heap _ _ _ _ _ _ (by assumption)) | (refine heap_at _ _ _ ?_; (first | rfl | (simp; done) | (simp <;> omega) | omega); done) | refine heap_drew' _ _ _ ?_ | (apply heap_past; (case hn => (first | rfl | (simp; done) | (simp <;> omega) | omega)))))); (case hi => exact sz21 _ _); (case hold => simp [rv_size]))
  refine bodyPost_ret (v := .tuple #[.agg (rv [(j : Int)] 20 (upd F j (bits .and .i64 (b % 256 + 256 * (F j / 256 % 256)) (MK j)))), .int .i64 (vEff j false)]) ?_ rfl ⟨rfl, ?_⟩
  · (apply results_row_tmp; (case h => rfl); (case hp => rfl); (case hr => rfl); (case hg => (repeat (first | assumption | (exact setRow_heap _ _ _ _ _ _ (by assumption)) | (refine heap_at _ _ _ ?_; (first | rfl | (simp; done) | (simp <;> omega) | omega); done) | refine heap_drew' _ _ _ ?_ | (apply heap_past; (case hn => (first | rfl | (simp; done) | (simp <;> omega) | omega)))))); (case hu => exact Try.underlying24); (case hd => rfl); (case hi => exact sz21 _ _))
  · exact Up.setRow hup' (by omega) _
end Go.Proofs.Ythlacommhklkkaa
