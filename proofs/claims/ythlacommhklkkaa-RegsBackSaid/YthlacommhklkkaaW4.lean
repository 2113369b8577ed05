/- The walk of the law RegsBack: it returns true. -/
import Derived.Test.YthlacommhklkkaaR2
import Derived.Test.YthlacommhklkkaaRH
import Derived.Test.YthlacommhklkkaaE
import Derived.Test.YthlacommhklkkaaRO
namespace Go.Proofs.Ythlacommhklkkaa
open Go.RowKit
open RV
theorem bt_join (a b : Int) (ha : 0 ≤ a ∧ a ≤ 255) (i : Nat) : BM.bt (a + 256 * b) i = if i < 8 then BM.bt a i else BM.bt b (i - 8) := by
  by_cases hi : i < 8
  · rw [if_pos hi]
    have hc : i = 0 ∨ i = 1 ∨ i = 2 ∨ i = 3 ∨ i = 4 ∨ i = 5 ∨ i = 6 ∨ i = 7 := by omega
    have : (a + 256 * b) / 2 ^ i % 2 = a / 2 ^ i % 2 := by
      rcases hc with rfl | rfl | rfl | rfl | rfl | rfl | rfl | rfl <;> simp <;> omega
    unfold BM.bt; rw [this]
  · rw [if_neg hi]
    have h := BM.bt_div (a + 256 * b) 8 (i - 8)
    rw [show 8 + (i - 8) = i by omega, show ((a + 256 * b) / 2 ^ 8 : Int) = b by omega] at h
    exact h.symm
theorem bt_255 (i : Nat) : BM.bt 255 i = decide (i < 8) := BM.bt_ones 8 i
theorem bt_byte (x : Int) (i : Nat) : BM.bt (x % 256) i = (decide (i < 8) && BM.bt x i) := BM.bt_mod x 8 i
theorem bt_small (m : Int) (hm : 0 ≤ m ∧ m ≤ 65535) (i : Nat) (hi : 16 ≤ i) : BM.bt m i = false := by
  have : m % 2 ^ 16 = m := by omega
  rw [← this, BM.bt_mod]; simp; omega
/-- Both bytes, one behind the other, and as much of all ones. -/
def back1 (w m : Int) : Int := bits .and .i64 (w % 256 + 256 * (0 / 256 % 256)) m
def back2 (w m : Int) : Int := bits .and .i64 (back1 w m % 256 + 256 * (w / 256 % 256)) m
def all1 (m : Int) : Int := bits .and .i64 (255 % 256 + 256 * (0 / 256 % 256)) m
def all2 (m : Int) : Int := bits .and .i64 (all1 m % 256 + 256 * (255 % 256)) m
theorem all2_rng (m : Int) (hm : 0 ≤ m ∧ m ≤ 65535) : 0 ≤ all2 m ∧ all2 m ≤ 65535 := by
  have := and_rng (all1 m % 256 + 256 * (255 % 256)) m (by omega) hm
  unfold all2; omega
theorem back_and (w m : Int) (hm : 0 ≤ m ∧ m ≤ 65535) : back2 w m = bits .and .i64 w (all2 m) := by
  refine BM.ext _ _ (BM.rng _ _ _) (BM.rng _ _ _) fun i hi => ?_
  have ee : ∀ x : Int, x + 256 * (0 / 256 % 256) = x := fun x => by omega
  unfold back2 all2 back1 all1
  rw [ee, ee]
  rw [BM.bt_and _ _ _ hi, BM.bt_and _ _ _ hi, BM.bt_and _ _ _ hi, bt_join _ _ (by omega), bt_join _ _ (by omega)]
  by_cases h : i < 8
  · rw [if_pos h, if_pos h, bt_byte, bt_byte, BM.bt_and _ _ _ hi, BM.bt_and _ _ _ hi, bt_byte]
    simp only [show (255 : Int) % 256 = 255 by decide, bt_255, h, decide_true, Bool.true_and]
    cases BM.bt w i <;> cases BM.bt m i <;> rfl
  · rw [if_neg h, if_neg h, bt_byte]
    by_cases h16 : i < 16
    · have h8 : i - 8 < 8 := by omega
      have hb : BM.bt (w / 256) (i - 8) = BM.bt w i := by
        have := BM.bt_div w 8 (i - 8)
        rw [show 8 + (i - 8) = i by omega] at this
        exact this
      simp only [show (255 : Int) % 256 = 255 by decide, bt_255, h8, decide_true, Bool.true_and, hb]
    · rw [bt_small m hm i (by omega)]; simp
theorem eff_off (j : Nat) : ((vEff (j : Int) false != 0) == ((j : Int) == 0 || (j : Int) == 2)) = true := by
  have hj : j = 0 ∨ j = 2 ∨ (j ≠ 0 ∧ j ≠ 2) := by omega
  rcases hj with rfl | rfl | ⟨h0, h2⟩
  · decide
  · decide
  · have a0 : ¬ (j : Int) = 0 := by omega
    have a2 : ¬ (j : Int) = 2 := by omega
    unfold vEff
    rw [if_neg a0, if_neg a2, if_pos rfl]
    have b0 : ((j : Int) == 0) = false := beq_eq_false_iff_ne.2 a0
    have b2 : ((j : Int) == 2) = false := beq_eq_false_iff_ne.2 a2
    rw [b0, b2]; rfl
def LW : List (Nat × Value) := [(0, .int .i64 1), (1, .int .i64 2), (2, .int .i64 4), (5, .int .i64 5), (18, .int .i64 6), (19, .int .i64 7)]
def WK : Nat → Int := fun j => vEff (j : Int) true
theorem built_want : Try.prog.built 22 LW = some (rv [] 20 WK) := by
  rw [built_20]
  simp only [LW]
  repeat rw [fill_int _ _ _ _ _ (by decide)]
  rw [fill_done]
  exact congrArg some (rv_congr _ _ _ _ (by decide))
theorem built_head {P : Program} (t : TypeId) (it : TypeInfo) (fs : Array Field) (n : Nat) (s : Int) (hi : P.info? t = some it) (hu : P.underlying t = some (.struct fs)) (hz : it.zero = some (.agg (rv [0] n fun _ => 0)))
    (hp : fs.toList.mapM (fun f => (P.info? f.type).map fun i => (f.offset, i.size)) = some [(0, 1), (1, n)]) : P.built t [(0, .int .i64 s)] = some (rv [s] n fun _ => 0) := by
  unfold Program.built
  simp only [hi, hu, hz, hp, cells_agg]
  have h1 : (Value.int IntKind.i64 s).cells = #[.int .i64 s] := rfl
  simp only [Instr.fill, h1, List.getElem?_toArray, List.getElem?_cons_zero]
  rw [if_neg (by rw [rv_size]; simp)]
  have e : (#[Value.int .i64 s] : Array Value).zipIdx.foldl (fun cs (x : Value × Nat) => cs.setIfInBounds (0 + x.2) x.1) (rv [0] n fun _ => 0) = rv [s] n fun _ => 0 := by
    have := rv_set_head [0] n (fun _ => 0) 0 s (by simp)
    simpa [Array.zipIdx] using this
  simp only [] at e
  rw [e]
theorem built_sel (s : Int) : Try.prog.built 24 [(0, .int .i64 s)] = some (rv [s] 20 fun _ => 0) := by
  have h := built_regs s (fun _ => 0)
  obtain ⟨it, hi⟩ := Option.isSome_iff_exists.1 (show (Try.prog.info? 24).isSome = true by kernel_rfl)
  have hz := zero21
  rw [hi, lit_zero] at hz
  simp only [Option.map_some, Option.some.injEq] at hz
  exact built_head 24 it _ 20 s hi Try.underlying24 hz (places21 _ Try.underlying24)
theorem write_selj (j : Nat) (hj : j < 20) (F : Nat → Int) (s : Int) (w : World) : Calls Try.prog 11 #[.agg (rv [s] 20 F), .int .i64 0, .int .i64 j] w fun e w' => e = .returned (.tuple #[.agg (rv [(j : Int)] 20 F), .int .i64 0]) ∧ Up w w' := by
  have h := write_sel s j F w
  rwa [show (j : Int) % 32 = j by omega] at h
attribute [local go_sem] idx20

theorem low_back (j : Nat) (hj : j < 20) (x : Int) (w : World) : Calls Try.prog 11 #[.agg (rv [(j : Int)] 20 fun _ => 0), .int .i64 2, .int .i64 x] w
    fun e w' => e = .returned (.tuple #[.agg (rv [(j : Int)] 20 (upd (fun _ => 0) j (back1 x (MK j)))), .int .i64 (vEff j false)]) ∧ Up w w' := write_low j hj x _ w
theorem high_back (j : Nat) (hj : j < 20) (x : Int) (w : World) : Calls Try.prog 11 #[.agg (rv [(j : Int)] 20 (upd (fun _ => 0) j (back1 x (MK j)))), .int .i64 3, .int .i64 (x / 256)] w
    fun e w' => e = .returned (.tuple #[.agg (rv [(j : Int)] 20 (upd (fun _ => 0) j (back2 x (MK j)))), .int .i64 (vEff j true)]) ∧ Up w w' := by
  have h := write_high j hj (x / 256) (upd (fun _ => 0) j (back1 x (MK j))) w
  rw [upd_upd, upd_same] at h
  exact h
theorem high_all (j : Nat) (hj : j < 20) (w : World) : Calls Try.prog 11 #[.agg (rv [(j : Int)] 20 (upd (fun _ => 0) j (all1 (MK j)))), .int .i64 3, .int .i64 255] w
    fun e w' => e = .returned (.tuple #[.agg (rv [(j : Int)] 20 (upd (fun _ => 0) j (all2 (MK j)))), .int .i64 (vEff j true)]) ∧ Up w w' := by
  have h := write_high j hj 255 (upd (fun _ => 0) j (all1 (MK j))) w
  rw [upd_upd, upd_same] at h
  exact h
attribute [local go_sem] rv1_get0
set_option maxHeartbeats 8000000 in
theorem walk_regsBack (k : Int) (_h1 : -9223372036854775808 ≤ k ∧ k ≤ 9223372036854775807) (x : Int) (_h2 : -9223372036854775808 ≤ x ∧ x ≤ 9223372036854775807) (w : World) :
    Calls Try.prog 5 #[.int .i64 k, .int .i64 x] w fun e w' => e = .returned (.bool true) ∧ Below w.heap.size w w' := by
  have ht := BM.tmod_cases k 20 (by omega)
  have k0 : -20 < k.tmod 20 := ht.1
  have k1 : k.tmod 20 < 20 := ht.2.1
  clear ht
  obtain ⟨j, hk, hj⟩ : ∃ j : Nat, (k.tmod 20 + 20).tmod 20 = (j : Int) ∧ j < 20 := by
    refine ⟨((k.tmod 20 + 20).tmod 20).toNat, ?_, ?_⟩
    · rw [Int.tmod_eq_emod_of_nonneg (by omega)]; omega
    · rw [Int.tmod_eq_emod_of_nonneg (by omega)]; omega
  have hj0 : (0 : Int) ≤ (j : Int) := by omega
  have hj1 : (j : Int) < 20 := by omega
  have HA := Lib.hid (all2_rng (MK j) (mk_rng j hj))
  have HB := Lib.hid (back_and x (MK j) (mk_rng j hj))
  have HE := Lib.hid (eff_off j)
  go_enter Try.func5, Try.ntmps5
  go_wp2_with (first | (apply load_is (ty := 24); (case ho => rfl); (case hgd => rfl); (case hx => rfl); (case hg => (repeat (first | assumption | (exact setRow_heap _ _ _ _ _ _ (by assumption)) | (refine heap_at _ _ _ ?_; (first | rfl | (simp; done) | (simp <;> omega) | omega); done) | refine heap_drew' _ _ _ ?_ | (apply heap_past; (case hn => (first | rfl | (simp; done) | (simp <;> omega) | omega)))))); (case hu => exact Try.underlying24); (case hd => rfl); (case hi => exact sz21 _ _)) | (apply store_is (ty := 24); (case ho => rfl); (case hgd => rfl); (case hx => rfl); (case hy => rfl); (case h1 => exact rv_one _ _ _); (case hw => (repeat (first | (refine setRow_at _ _ _ _ _ ?_; (first | rfl | (simp; done) | (simp <;> omega) | omega); done) | refine setRow_drew_is _ _ _ _ ?_ | (apply setRow_past_is; (case hn => (first | rfl | (simp; done) | (simp <;> omega) | omega))) | exact rfl))); (case hg => (repeat (first | assumption | (exact setRow_heap _ _ _ _ _ _ (by assumption)) | (refine heap_at _ _ _ ?_; (first | rfl | (simp; done) | (simp <;> omega) | omega); done) | refine heap_drew' _ _ _ ?_ | (apply heap_past; (case hn => (first | rfl | (simp; done) | (simp <;> omega) | omega)))))); (case hi => exact sz21 _ _); (case hold => simp [rv_size])) | (apply build_is (t := 24); (case ho => rfl); (case hg => rfl); (case hf => (first | (rw [Array.toList_map]; exact built_sel _) | exact built_sel _))) | (apply build_is (t := 22); (case ho => rfl); (case hg => rfl); (case hf => (first | (rw [Array.toList_map]; exact built_want) | exact built_want))))
  refine (fresh_any _).mono ?_; rintro e w1 ⟨rfl, hU1⟩
  have z1 : w.heap.size ≤ w1.heap.size := by have := hU1.size; first | omega | (simp at this; omega)
  have hV1 : Up w w1 := Up.trans (by (repeat (first | exact Up.refl _ | assumption | refine Up.drew ?_ | refine Up.alloc ?_ _ | (refine Up.setRow ?_ (by first | omega | (simp <;> omega)) _)))) hU1
  clear hU1
  go_wp2_with (first | (apply load_is (ty := 24); (case ho => rfl); (case hgd => rfl); (case hx => rfl); (case hg => (repeat (first | assumption | (exact setRow_heap _ _ _ _ _ _ (by assumption)) | (refine heap_at _ _ _ ?_; (first | rfl | (simp; done) | (simp <;> omega) | omega); done) | refine heap_drew' _ _ _ ?_ | (apply heap_past; (case hn => (first | rfl | (simp; done) | (simp <;> omega) | omega)))))); (case hu => exact Try.underlying24); (case hd => rfl); (case hi => exact sz21 _ _)) | (apply store_is (ty := 24); (case ho => rfl); (case hgd => rfl); (case hx => rfl); (case hy => rfl); (case h1 => exact rv_one _ _ _); (case hw => (repeat (first | (refine setRow_at _ _ _ _ _ ?_; (first | rfl | (simp; done) | (simp <;> omega) | omega); done) | refine setRow_drew_is _ _ _ _ ?_ | (apply setRow_past_is; (case hn => (first | rfl | (simp; done) | (simp <;> omega) | omega))) | exact rfl))); (case hg => (repeat (first | assumption | (exact setRow_heap _ _ _ _ _ _ (by assumption)) | (refine heap_at _ _ _ ?_; (first | rfl | (simp; done) | (simp <;> omega) | omega); done) | refine heap_drew' _ _ _ ?_ | (apply heap_past; (case hn => (first | rfl | (simp; done) | (simp <;> omega) | omega)))))); (case hi => exact sz21 _ _); (case hold => simp [rv_size])) | (apply build_is (t := 24); (case ho => rfl); (case hg => rfl); (case hf => (first | (rw [Array.toList_map]; exact built_sel _) | exact built_sel _))) | (apply build_is (t := 22); (case ho => rfl); (case hg => rfl); (case hf => (first | (rw [Array.toList_map]; exact built_want) | exact built_want))))
  refine (write_selj _ hj _ _ _).mono ?_; rintro e w2 ⟨rfl, hU2⟩
  have z2 : w1.heap.size ≤ w2.heap.size := by have := hU2.size; first | omega | (simp at this; omega)
  have hV2 : Up w w2 := Up.trans (by (repeat (first | exact Up.refl _ | assumption | refine Up.drew ?_ | refine Up.alloc ?_ _ | (refine Up.setRow ?_ (by first | omega | (simp <;> omega)) _)))) hU2
  clear hU2
  clear hV1
  go_wp2_with (first | (apply load_is (ty := 24); (case ho => rfl); (case hgd => rfl); (case hx => rfl); (case hg => (repeat (first | assumption | (exact setRow_heap _ _ _ _ _ _ (by assumption)) | (refine heap_at _ _ _ ?_; (first | rfl | (simp; done) | (simp <;> omega) | omega); done) | refine heap_drew' _ _ _ ?_ | (apply heap_past; (case hn => (first | rfl | (simp; done) | (simp <;> omega) | omega)))))); (case hu => exact Try.underlying24); (case hd => rfl); (case hi => exact sz21 _ _)) | (apply store_is (ty := 24); (case ho => rfl); (case hgd => rfl); (case hx => rfl); (case hy => rfl); (case h1 => exact rv_one _ _ _); (case hw => (repeat (first | (refine setRow_at _ _ _ _ _ ?_; (first | rfl | (simp; done) | (simp <;> omega) | omega); done) | refine setRow_drew_is _ _ _ _ ?_ | (apply setRow_past_is; (case hn => (first | rfl | (simp; done) | (simp <;> omega) | omega))) | exact rfl))); (case hg => (repeat (first | assumption | (exact setRow_heap _ _ _ _ _ _ (by assumption)) | (refine heap_at _ _ _ ?_; (first | rfl | (simp; done) | (simp <;> omega) | omega); done) | refine heap_drew' _ _ _ ?_ | (apply heap_past; (case hn => (first | rfl | (simp; done) | (simp <;> omega) | omega)))))); (case hi => exact sz21 _ _); (case hold => simp [rv_size])) | (apply build_is (t := 24); (case ho => rfl); (case hg => rfl); (case hf => (first | (rw [Array.toList_map]; exact built_sel _) | exact built_sel _))) | (apply build_is (t := 22); (case ho => rfl); (case hg => rfl); (case hf => (first | (rw [Array.toList_map]; exact built_want) | exact built_want))))
  refine (low_back _ hj _ _).mono ?_; rintro e w3 ⟨rfl, hU3⟩
  have q3_0 : w3.heap[w2.heap.size]? = some (.cells (rv [(j : Int)] 20 (fun _ => 0)) 24 (0, 0)) := (hU3.heap (by first | omega | (simp <;> omega))).trans (by (repeat (first | assumption | (exact setRow_heap _ _ _ _ _ _ (by assumption)) | (refine heap_at _ _ _ ?_; (first | rfl | (simp; done) | (simp <;> omega) | omega); done) | refine heap_drew' _ _ _ ?_ | (apply heap_past; (case hn => (first | rfl | (simp; done) | (simp <;> omega) | omega))))))
  have z3 : w2.heap.size ≤ w3.heap.size := by have := hU3.size; first | omega | (simp at this; omega)
  have l3_0 : w2.heap.size < w3.heap.size := lt_of_block q3_0
  have hV3 : Up w w3 := Up.trans (by (repeat (first | exact Up.refl _ | assumption | refine Up.drew ?_ | refine Up.alloc ?_ _ | (refine Up.setRow ?_ (by first | omega | (simp <;> omega)) _)))) hU3
  clear hU3
  clear hV2
  go_wp2_with (first | (apply load_is (ty := 24); (case ho => rfl); (case hgd => rfl); (case hx => rfl); (case hg => (repeat (first | assumption | (exact setRow_heap _ _ _ _ _ _ (by assumption)) | (refine heap_at _ _ _ ?_; (first | rfl | (simp; done) | (simp <;> omega) | omega); done) | refine heap_drew' _ _ _ ?_ | (apply heap_past; (case hn => (first | rfl | (simp; done) | (simp <;> omega) | omega)))))); (case hu => exact Try.underlying24); (case hd => rfl); (case hi => exact sz21 _ _)) | (apply store_is (ty := 24); (case ho => rfl); (case hgd => rfl); (case hx => rfl); (case hy => rfl); (case h1 => exact rv_one _ _ _); (case hw => (repeat (first | (refine setRow_at _ _ _ _ _ ?_; (first | rfl | (simp; done) | (simp <;> omega) | omega); done) | refine setRow_drew_is _ _ _ _ ?_ | (apply setRow_past_is; (case hn => (first | rfl | (simp; done) | (simp <;> omega) | omega))) | exact rfl))); (case hg => (repeat (first | assumption | (exact setRow_heap _ _ _ _ _ _ (by assumption)) | (refine heap_at _ _ _ ?_; (first | rfl | (simp; done) | (simp <;> omega) | omega); done) | refine heap_drew' _ _ _ ?_ | (apply heap_past; (case hn => (first | rfl | (simp; done) | (simp <;> omega) | omega)))))); (case hi => exact sz21 _ _); (case hold => simp [rv_size])) | (apply build_is (t := 24); (case ho => rfl); (case hg => rfl); (case hf => (first | (rw [Array.toList_map]; exact built_sel _) | exact built_sel _))) | (apply build_is (t := 22); (case ho => rfl); (case hg => rfl); (case hf => (first | (rw [Array.toList_map]; exact built_want) | exact built_want))))
  refine (high_back _ hj _ _).mono ?_; rintro e w4 ⟨rfl, hU4⟩
  have q4_0 : w4.heap[w2.heap.size]? = some (.cells (rv [(j : Int)] 20 (upd (fun _ => 0) j (back1 x (MK j)))) 24 (0, 0)) := (hU4.heap (by first | omega | (simp <;> omega))).trans (by (repeat (first | assumption | (exact setRow_heap _ _ _ _ _ _ (by assumption)) | (refine heap_at _ _ _ ?_; (first | rfl | (simp; done) | (simp <;> omega) | omega); done) | refine heap_drew' _ _ _ ?_ | (apply heap_past; (case hn => (first | rfl | (simp; done) | (simp <;> omega) | omega))))))
  have z4 : w3.heap.size ≤ w4.heap.size := by have := hU4.size; first | omega | (simp at this; omega)
  have l4_0 : w2.heap.size < w4.heap.size := lt_of_block q4_0
  have hV4 : Up w w4 := Up.trans (by (repeat (first | exact Up.refl _ | assumption | refine Up.drew ?_ | refine Up.alloc ?_ _ | (refine Up.setRow ?_ (by first | omega | (simp <;> omega)) _)))) hU4
  clear hU4
  clear hV3
  clear q3_0
  go_wp2_with (first | (apply load_is (ty := 24); (case ho => rfl); (case hgd => rfl); (case hx => rfl); (case hg => (repeat (first | assumption | (exact setRow_heap _ _ _ _ _ _ (by assumption)) | (refine heap_at _ _ _ ?_; (first | rfl | (simp; done) | (simp <;> omega) | omega); done) | refine heap_drew' _ _ _ ?_ | (apply heap_past; (case hn => (first | rfl | (simp; done) | (simp <;> omega) | omega)))))); (case hu => exact Try.underlying24); (case hd => rfl); (case hi => exact sz21 _ _)) | (apply store_is (ty := 24); (case ho => rfl); (case hgd => rfl); (case hx => rfl); (case hy => rfl); (case h1 => exact rv_one _ _ _); (case hw => (repeat (first | (refine setRow_at _ _ _ _ _ ?_; (first | rfl | (simp; done) | (simp <;> omega) | omega); done) | refine setRow_drew_is _ _ _ _ ?_ | (apply setRow_past_is; (case hn => (first | rfl | (simp; done) | (simp <;> omega) | omega))) | exact rfl))); (case hg => (repeat (first | assumption | (exact setRow_heap _ _ _ _ _ _ (by assumption)) | (refine heap_at _ _ _ ?_; (first | rfl | (simp; done) | (simp <;> omega) | omega); done) | refine heap_drew' _ _ _ ?_ | (apply heap_past; (case hn => (first | rfl | (simp; done) | (simp <;> omega) | omega)))))); (case hi => exact sz21 _ _); (case hold => simp [rv_size])) | (apply build_is (t := 24); (case ho => rfl); (case hg => rfl); (case hf => (first | (rw [Array.toList_map]; exact built_sel _) | exact built_sel _))) | (apply build_is (t := 22); (case ho => rfl); (case hg => rfl); (case hf => (first | (rw [Array.toList_map]; exact built_want) | exact built_want))))
  refine (low_back _ hj 255 _).mono ?_; rintro e w5 ⟨rfl, hU5⟩
  have q5_0 : w5.heap[w2.heap.size]? = some (.cells (rv [(j : Int)] 20 (upd (fun _ => 0) j (back2 x (MK j)))) 24 (0, 0)) := (hU5.heap (by first | omega | (simp <;> omega))).trans (by (repeat (first | assumption | (exact setRow_heap _ _ _ _ _ _ (by assumption)) | (refine heap_at _ _ _ ?_; (first | rfl | (simp; done) | (simp <;> omega) | omega); done) | refine heap_drew' _ _ _ ?_ | (apply heap_past; (case hn => (first | rfl | (simp; done) | (simp <;> omega) | omega))))))
  have z5 : w4.heap.size ≤ w5.heap.size := by have := hU5.size; first | omega | (simp at this; omega)
  have l5_0 : w2.heap.size < w5.heap.size := lt_of_block q5_0
  have hV5 : Up w w5 := Up.trans (by (repeat (first | exact Up.refl _ | assumption | refine Up.drew ?_ | refine Up.alloc ?_ _ | (refine Up.setRow ?_ (by first | omega | (simp <;> omega)) _)))) hU5
  clear hU5
  clear hV4
  clear q4_0
  go_wp2_with (first | (apply load_is (ty := 24); (case ho => rfl); (case hgd => rfl); (case hx => rfl); (case hg => (repeat (first | assumption | (exact setRow_heap _ _ _ _ _ _ (by assumption)) | (refine heap_at _ _ _ ?_; (first | rfl | (simp; done) | (simp <;> omega) | omega); done) | refine heap_drew' _ _ _ ?_ | (apply heap_past; (case hn => (first | rfl | (simp; done) | (simp <;> omega) | omega)))))); (case hu => exact Try.underlying24); (case hd => rfl); (case hi => exact sz21 _ _)) | (apply store_is (ty := 24); (case ho => rfl); (case hgd => rfl); (case hx => rfl); (case hy => rfl); (case h1 => exact rv_one _ _ _); (case hw => (repeat (first | (refine setRow_at _ _ _ _ _ ?_; (first | rfl | (simp; done) | (simp <;> omega) | omega); done) | refine setRow_drew_is _ _ _ _ ?_ | (apply setRow_past_is; (case hn => (first | rfl | (simp; done) | (simp <;> omega) | omega))) | exact rfl))); (case hg => (repeat (first | assumption | (exact setRow_heap _ _ _ _ _ _ (by assumption)) | (refine heap_at _ _ _ ?_; (first | rfl | (simp; done) | (simp <;> omega) | omega); done) | refine heap_drew' _ _ _ ?_ | (apply heap_past; (case hn => (first | rfl | (simp; done) | (simp <;> omega) | omega)))))); (case hi => exact sz21 _ _); (case hold => simp [rv_size])) | (apply build_is (t := 24); (case ho => rfl); (case hg => rfl); (case hf => (first | (rw [Array.toList_map]; exact built_sel _) | exact built_sel _))) | (apply build_is (t := 22); (case ho => rfl); (case hg => rfl); (case hf => (first | (rw [Array.toList_map]; exact built_want) | exact built_want))))
  refine (high_all _ hj _).mono ?_; rintro e w6 ⟨rfl, hU6⟩
  have q6_0 : w6.heap[w2.heap.size]? = some (.cells (rv [(j : Int)] 20 (upd (fun _ => 0) j (back2 x (MK j)))) 24 (0, 0)) := (hU6.heap (by first | omega | (simp <;> omega))).trans (by (repeat (first | assumption | (exact setRow_heap _ _ _ _ _ _ (by assumption)) | (refine heap_at _ _ _ ?_; (first | rfl | (simp; done) | (simp <;> omega) | omega); done) | refine heap_drew' _ _ _ ?_ | (apply heap_past; (case hn => (first | rfl | (simp; done) | (simp <;> omega) | omega))))))
  have q6_1 : w6.heap[w5.heap.size]? = some (.cells (rv [(j : Int)] 20 (upd (fun _ => 0) j (back1 255 (MK j)))) 24 (0, 0)) := (hU6.heap (by first | omega | (simp <;> omega))).trans (by (repeat (first | assumption | (exact setRow_heap _ _ _ _ _ _ (by assumption)) | (refine heap_at _ _ _ ?_; (first | rfl | (simp; done) | (simp <;> omega) | omega); done) | refine heap_drew' _ _ _ ?_ | (apply heap_past; (case hn => (first | rfl | (simp; done) | (simp <;> omega) | omega))))))
  have z6 : w5.heap.size ≤ w6.heap.size := by have := hU6.size; first | omega | (simp at this; omega)
  have l6_0 : w2.heap.size < w6.heap.size := lt_of_block q6_0
  have l6_1 : w5.heap.size < w6.heap.size := lt_of_block q6_1
  have hV6 : Up w w6 := Up.trans (by (repeat (first | exact Up.refl _ | assumption | refine Up.drew ?_ | refine Up.alloc ?_ _ | (refine Up.setRow ?_ (by first | omega | (simp <;> omega)) _)))) hU6
  clear hU6
  clear hV5
  clear q5_0
  go_wp2_with (first | (apply load_is (ty := 24); (case ho => rfl); (case hgd => rfl); (case hx => rfl); (case hg => (repeat (first | assumption | (exact setRow_heap _ _ _ _ _ _ (by assumption)) | (refine heap_at _ _ _ ?_; (first | rfl | (simp; done) | (simp <;> omega) | omega); done) | refine heap_drew' _ _ _ ?_ | (apply heap_past; (case hn => (first | rfl | (simp; done) | (simp <;> omega) | omega)))))); (case hu => exact Try.underlying24); (case hd => rfl); (case hi => exact sz21 _ _)) | (apply store_is (ty := 24); (case ho => rfl); (case hgd => rfl); (case hx => rfl); (case hy => rfl); (case h1 => exact rv_one _ _ _); (case hw => (repeat (first | (refine setRow_at _ _ _ _ _ ?_; (first | rfl | (simp; done) | (simp <;> omega) | omega); done) | refine setRow_drew_is _ _ _ _ ?_ | (apply setRow_past_is; (case hn => (first | rfl | (simp; done) | (simp <;> omega) | omega))) | exact rfl))); (case hg => (repeat (first | assumption | (exact setRow_heap _ _ _ _ _ _ (by assumption)) | (refine heap_at _ _ _ ?_; (first | rfl | (simp; done) | (simp <;> omega) | omega); done) | refine heap_drew' _ _ _ ?_ | (apply heap_past; (case hn => (first | rfl | (simp; done) | (simp <;> omega) | omega)))))); (case hi => exact sz21 _ _); (case hold => simp [rv_size])) | (apply build_is (t := 24); (case ho => rfl); (case hg => rfl); (case hf => (first | (rw [Array.toList_map]; exact built_sel _) | exact built_sel _))) | (apply build_is (t := 22); (case ho => rfl); (case hg => rfl); (case hf => (first | (rw [Array.toList_map]; exact built_want) | exact built_want))))
  have g5 : (w6.setRow w5.heap.size (rv [(j : Int)] 20 (upd (fun _ => 0) j (all2 (MK j))))).heap[w2.heap.size]? = some (.cells (rv [(j : Int)] 20 (upd (fun _ => 0) j (back2 x (MK j)))) 24 (0, 0)) := (setRow_other _ _ _ _ (by omega)).trans q6_0
  have g9 : (w6.setRow w5.heap.size (rv [(j : Int)] 20 (upd (fun _ => 0) j (all2 (MK j))))).heap[w5.heap.size]? = some (.cells (rv [(j : Int)] 20 (upd (fun _ => 0) j (all2 (MK j)))) 24 (0, 0)) := setRow_heap _ _ _ _ _ _ q6_1
  have hUW : Up w (w6.setRow w5.heap.size (rv [(j : Int)] 20 (upd (fun _ => 0) j (all2 (MK j))))) := Up.setRow hV6 (by omega) _
  generalize w6.setRow w5.heap.size (rv [(j : Int)] 20 (upd (fun _ => 0) j (all2 (MK j)))) = W0 at *
  have c5 : W0.cell? ⟨w2.heap.size, 0, none⟩ = some (.int .i64 j) := (cell_of_row _ _ _ _ _ _ g5).trans (rv1_get0 _ _ _)
  have d5 : W0.cell? ⟨w2.heap.size, 1 + j, none⟩ = some (.int .i64 (back2 x (MK j))) := by rw [cell_of_row _ _ _ _ _ _ g5, rv1_get _ _ _ _ hj, upd_same]
  have d9 : W0.cell? ⟨w5.heap.size, 1 + j, none⟩ = some (.int .i64 (all2 (MK j))) := by rw [cell_of_row _ _ _ _ _ _ g9, rv1_get _ _ _ _ hj, upd_same]
  have hX : (back2 x (MK j) == bits .and .i64 x (all2 (MK j))) = true := beq_iff_eq.2 HB.out
  have hw : WK j = vEff j true := rfl
  have hY0 : decide (0 ≤ all2 (MK j)) = true := decide_eq_true HA.out.1
  have hY1 : decide (all2 (MK j) ≤ 65535) = true := decide_eq_true HA.out.2
  have he := HE.out
  rw [hw]
  clear g5 g9 hw HA HB HE k0 k1 hk q6_0 q6_1 hV6 z1 z2 z3 z4 z5 z6
  generalize back2 x (MK j) = X2 at *
  generalize all2 (MK j) = Y2 at *
  generalize vEff j true = e1 at *
  generalize vEff j false = e0 at *
  cases a0 : ((j : Int) == 0) <;> cases a2 : ((j : Int) == 2) <;> cases b0 : (e0 != 0) <;> rw [a0, a2, b0] at he <;> first | (exact absurd he (by decide)) | skip
  all_goals (clear he; go_quiet (fail); go_wp2_with fail; go_ret; exact ⟨rfl, hUW.drewN _⟩)
end Go.Proofs.Ythlacommhklkkaa
