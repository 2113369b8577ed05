/- The walk of the law RegsStays: it returns true. -/
import Derived.Test.YthlacommhklkkaaT
import Derived.Test.YthlacommhklkkaaI
import Derived.Test.YthlacommhklkkaaSL
import Derived.Deep.DeepCutAuto
import Derived.Deep.LoopGhost
import Derived.Deep.QuietTactic
import Derived.BigQuiet
import Derived.Lib.Hide
namespace Go.Proofs.Ythlacommhklkkaa
open Go.RowKit
open RV
theorem okTo_iff (F : Nat → Int) (n : Nat) : okTo F n = true ↔ ∀ j, j < n → (bits .andNot .i64 (F j) (MK j) != 0) = false := by
  unfold okTo
  simp only [List.all_eq_true, List.mem_range, Bool.not_eq_true']
theorem andNot_and (x m : Int) : bits .andNot .i64 (bits .and .i64 x m) m = 0 := by
  refine BM.ext _ _ (BM.rng _ _ _) (by omega) fun i hi => ?_
  rw [BM.bt_andNot _ _ _ hi, BM.bt_and _ _ _ hi]
  have z : BM.bt 0 i = false := by simp [BM.bt]
  rw [z]
  cases BM.bt x i <;> cases BM.bt m i <;> rfl
theorem okTo_upd (F : Nat → Int) (j : Nat) (x : Int) (h : okTo F 20 = true) : okTo (upd F j (bits .and .i64 x (MK j))) 20 = true := by
  rw [okTo_iff] at h ⊢
  intro k hk
  by_cases e : k = j
  · subst e; rw [upd_same, andNot_and]; rfl
  · rw [upd_other _ _ _ _ e]; exact h k hk
/-- A write leaves registers that may be; others than the chosen one stay. -/
theorem write_stays (s : Int) (F : Nat → Int) (hF : ∀ i, -9223372036854775808 ≤ F i ∧ F i ≤ 9223372036854775807) (hv : vOk s F = true) (at0 b : Int) :
    ∃ (s' : Int) (G : Nat → Int) (e0 : Int), (∀ w, Calls Try.prog 11 #[.agg (rv [s] 20 F), .int .i64 at0, .int .i64 b] w fun e w' => e = .returned (.tuple #[.agg (rv [s'] 20 G), .int .i64 e0]) ∧ Up w w') ∧
      vOk s' G = true ∧ (∀ i, -9223372036854775808 ≤ G i ∧ G i ≤ 9223372036854775807) ∧ ∀ k : Nat, (k : Int) ≠ s → G k = F k := by
  have hv' := hv
  unfold vOk at hv'
  simp only [Bool.and_eq_true, decide_eq_true_eq] at hv'
  obtain ⟨hok, hs0, hs1⟩ := hv'
  have same : vOk s F = true ∧ (∀ i, -9223372036854775808 ≤ F i ∧ F i ≤ 9223372036854775807) ∧ ∀ k : Nat, (k : Int) ≠ s → F k = F k := ⟨hv, hF, fun _ _ => rfl⟩
  by_cases h0 : at0 = 0
  · subst h0
    refine ⟨_, _, _, fun w => write_sel s b F w, ?_, hF, fun _ _ => rfl⟩
    unfold vOk; rw [hok, decide_eq_true (by omega : 0 ≤ b % 32), decide_eq_true (by omega : b % 32 ≤ 31)]; rfl
  · by_cases h2 : at0 = 2 ∨ at0 = 3
    · by_cases hs : s < 0 ∨ 20 ≤ s
      · exact ⟨_, _, _, fun w => write_far s at0 b F w h2 hs, same⟩
      · obtain ⟨j, rfl⟩ := Int.eq_ofNat_of_zero_le (show 0 ≤ s by omega)
        have hj : j < 20 := by omega
        have fin : ∀ x : Int, vOk (j : Int) (upd F j (bits .and .i64 x (MK j))) = true ∧ (∀ i, -9223372036854775808 ≤ upd F j (bits .and .i64 x (MK j)) i ∧ upd F j (bits .and .i64 x (MK j)) i ≤ 9223372036854775807) ∧ ∀ k : Nat, (k : Int) ≠ (j : Int) → upd F j (bits .and .i64 x (MK j)) k = F k := fun x => by
          refine ⟨?_, fun i => ?_, fun k hk => upd_other _ _ _ _ (by omega)⟩
          · unfold vOk; rw [okTo_upd F j x hok, decide_eq_true (by omega : 0 ≤ (j : Int)), decide_eq_true (by omega : (j : Int) ≤ 31)]; rfl
          · unfold upd; split
            · exact BM.rng _ _ _
            · exact hF i
        rcases h2 with rfl | rfl
        · exact ⟨_, _, _, fun w => write_low j hj b F w, fin _⟩
        · exact ⟨_, _, _, fun w => write_high j hj b F w, fin _⟩
    · exact ⟨_, _, _, fun w => write_none s at0 b F w (beq_eq_false_iff_ne.2 h0) (beq_eq_false_iff_ne.2 (by omega)) (beq_eq_false_iff_ne.2 (by omega)), same⟩
/-- Block g is a row of n cells of the call's own. -/
def RowW (n : Nat) (w : World) (g : Nat) : Prop := ∃ c t, w.heap[g]? = some (.cells c t (0, 0)) ∧ c.size = n
theorem RowW_drew (n : Nat) (w : World) (g : Nat) : RowW n w.drew g = RowW n w g := rfl
theorem RowW.of {n : Nat} {w : World} {g : Nat} {c : Array Value} {t : TypeId} (h : w.heap[g]? = some (.cells c t (0, 0))) (hn : c.size = n) : RowW n w g := ⟨c, t, h, hn⟩
theorem RowW_at (n : Nat) (w : World) (c : Array Value) (t : TypeId) (g : Nat) (hg : g = w.heap.size) (hc : c.size = n) : RowW n (w.alloc (.cells c t)) g := by subst hg; exact ⟨c, t, heap_alloc_new _ _, hc⟩
theorem RowW.later {n : Nat} {a b : World} {g : Nat} (h : RowW n a g) (hb : Up a b) : RowW n b g := by
  obtain ⟨c, t, hg, hc⟩ := h
  exact ⟨c, t, (hb.heap (lt_of_block hg)).trans hg, hc⟩
theorem RowW.set {n : Nat} {w : World} {g : Nat} (h : RowW n w g) (C : Array Value) : ∃ t, (w.setRow g C).heap[g]? = some (.cells C t (0, 0)) := by
  obtain ⟨c, t, hg, _⟩ := h
  exact ⟨t, setRow_heap _ _ _ _ _ _ hg⟩
def stR (p v : Value) : Sem Unit := Instr.storeAt 24 p v
theorem to_stR (p v : Value) : Instr.storeAt 24 p v = stR p v := rfl
theorem run_stR (w : World) (g : Nat) (s : Int) (F : Nat → Int) (h : RowW 21 w g) : (stR (.pointer (some ⟨g, 0, none⟩)) (.agg (rv [s] 20 F))).run Try.prog w = .ok () (w.setRow g (rv [s] 20 F)) := by
  obtain ⟨c, ty, hg, hn⟩ := h
  have hl := run_storeVar_row (P := Try.prog) w g ty 24 c (rv [s] 20 F) hg (sz21 _ _) (by rw [hn, rv_size]; rfl) (rv_one _ _ _)
  simp only [stR, Instr.storeAt, Instr.sureAddr, Sem.run_bind, Sem.run_pure, Result.andThen_ok]
  exact hl
attribute [local go_sem ↓ high] to_ldR to_stR
attribute [local go_sem] run_ldR run_stR RowW_drew RowW_at rv1_get0
set_option maxHeartbeats 8000000 in
set_option maxRecDepth 20000 in
theorem walk_regsStays (w : World) (a : Option Addr) (len cap : Nat) (Z : Nat → Nat → Int) (hZ : OP.IsRows w 2 a len cap Z) :
    Calls Try.prog 6 #[.slice a len cap] w fun e w' => e = .returned (.bool true) ∧ Below w.heap.size w w' := by
  obtain ⟨hlc, hcm, hzr, hrow⟩ := hZ
  have HR := Lib.hid hrow
  have hlen : len ≤ 9223372036854775807 := by omega
  have hv0 : vOk 0 (fun _ => 0) = true := by decide +kernel
  obtain ⟨K, hK⟩ : ∃ K, min len 60 = K := ⟨_, rfl⟩
  have HK := Lib.hid hK
  have HZ := Lib.hid hzr
  clear hrow hK hlc hcm hzr
  go_enter Try.func6, Try.ntmps6
  go_wp2_with (first | (apply load_is (ty := 24); (case ho => rfl); (case hgd => rfl); (case hx => rfl); (case hg => (repeat (first | assumption | (exact setRow_heap _ _ _ _ _ _ (by assumption)) | (refine heap_at _ _ _ ?_; (first | rfl | (simp; done) | (simp <;> omega) | omega); done) | refine heap_drew' _ _ _ ?_ | (apply heap_past; (case hn => (first | rfl | (simp; done) | (simp <;> omega) | omega)))))); (case hu => exact Try.underlying24); (case hd => rfl); (case hi => exact sz21 _ _)) | (apply store_is (ty := 24); (case ho => rfl); (case hgd => rfl); (case hx => rfl); (case hy => rfl); (case h1 => exact rv_one _ _ _); (case hw => (repeat (first | (refine setRow_at _ _ _ _ _ ?_; (first | rfl | (simp; done) | (simp <;> omega) | omega); done) | apply setRow_drew_is | (apply setRow_past_is; (case hn => (first | rfl | (simp; done) | (simp <;> omega) | omega))) | exact rfl))); (case hg => (repeat (first | assumption | (exact setRow_heap _ _ _ _ _ _ (by assumption)) | (refine heap_at _ _ _ ?_; (first | rfl | (simp; done) | (simp <;> omega) | omega); done) | refine heap_drew' _ _ _ ?_ | (apply heap_past; (case hn => (first | rfl | (simp; done) | (simp <;> omega) | omega)))))); (case hi => exact sz21 _ _); (case hold => simp [rv_size])))
  refine (fresh_any _).mono ?_; rintro e w1 ⟨rfl, hU1⟩
  go_wp2_with (first | (apply load_is (ty := 24); (case ho => rfl); (case hgd => rfl); (case hx => rfl); (case hg => (repeat (first | assumption | (exact setRow_heap _ _ _ _ _ _ (by assumption)) | (refine heap_at _ _ _ ?_; (first | rfl | (simp; done) | (simp <;> omega) | omega); done) | refine heap_drew' _ _ _ ?_ | (apply heap_past; (case hn => (first | rfl | (simp; done) | (simp <;> omega) | omega)))))); (case hu => exact Try.underlying24); (case hd => rfl); (case hi => exact sz21 _ _)) | (apply store_is (ty := 24); (case ho => rfl); (case hgd => rfl); (case hx => rfl); (case hy => rfl); (case h1 => exact rv_one _ _ _); (case hw => (repeat (first | (refine setRow_at _ _ _ _ _ ?_; (first | rfl | (simp; done) | (simp <;> omega) | omega); done) | apply setRow_drew_is | (apply setRow_past_is; (case hn => (first | rfl | (simp; done) | (simp <;> omega) | omega))) | exact rfl))); (case hg => (repeat (first | assumption | (exact setRow_heap _ _ _ _ _ _ (by assumption)) | (refine heap_at _ _ _ ?_; (first | rfl | (simp; done) | (simp <;> omega) | omega); done) | refine heap_drew' _ _ _ ?_ | (apply heap_past; (case hn => (first | rfl | (simp; done) | (simp <;> omega) | omega)))))); (case hi => exact sz21 _ _); (case hold => simp [rv_size])))
  refine (valid_any _ _ _).mono ?_; rintro e w2 ⟨rfl, hU2⟩
  rw [hv0]
  have hg : w.heap.size ≤ w1.heap.size := hU1.size
  have hR : RW w w1.heap.size 24 (rv [0] 20 fun _ => 0) w2 := ⟨(hU1.alloc _).trans hU2, (hU2.heap (by simp)).trans (heap_alloc_new _ _)⟩
  obtain ⟨g, hgg⟩ : ∃ g, w1.heap.size = g := ⟨_, rfl⟩
  rw [hgg] at hR hg ⊢
  have HV0 := Lib.hid hv0
  clear hgg hU1 hU2 hv0
  go_wp2_with fail
  go_loopg [4, 5, 6, 7] K (fun gk i s5 s6 s7 wr => ∃ (n : Nat) (s : Int) (F : Nat → Int), n + gk = K ∧ i = .int .i64 n ∧ vOk s F = true ∧ (∀ i, -9223372036854775808 ≤ F i ∧ F i ≤ 9223372036854775807) ∧ RW w g 24 (rv [s] 20 F) wr)
  case atStart => exact ⟨0, 0, _, by omega, rfl, HV0.out, fun _ => ⟨by show (-9223372036854775808 : Int) ≤ 0; decide, by show (0 : Int) ≤ 9223372036854775807; decide⟩, hR⟩
  case round =>
    obtain ⟨n, s, F, hn, rfl, hv, hF, hRr⟩ := hrel
    have HV := Lib.hid hv
    have HF := Lib.hid hF
    clear hv hF hR
    cases gk with
    | zero =>
      have HU := Lib.hid hRr.up
      clear hRr
      obtain rfl : n = K := by omega
      have hd : (decide ((n : Int) < (len : Int)) = false ∧ ¬ n < len) ∨ (decide ((n : Int) < (len : Int)) = true ∧ decide ((n : Int) < 60) = false ∧ n < len) := by
        have := HK.out
        by_cases h : n < len
        · exact .inr ⟨decide_eq_true (by omega), decide_eq_false (by omega), h⟩
        · exact .inl ⟨decide_eq_false (by omega), h⟩
      rcases hd with ⟨hd, hl⟩ | ⟨hd, he, hl⟩
      · go_wp2_with fail
        go_ret
        exact ⟨rfl, HU.out⟩
      · go_wp2_with fail
        go_ret
        exact ⟨rfl, HU.out⟩
    | succ gk =>
      have hnl : n < len ∧ n < 60 := by have := HK.out; omega
      rcases HR.out with h | ⟨b, off, rfl, hb, hc⟩
      · omega
      · have d1 : decide ((n : Int) < (len : Int)) = true := decide_eq_true (by omega)
        have d2 : decide ((n : Int) < 60) = true := decide_eq_true (by omega)
        have e1 : (n : Int) < (len : Int) := by omega
        have e0 : (0 : Int) ≤ (n : Int) := by omega
        obtain ⟨s', G, x0, hW, hv2, hF2, hGk⟩ := write_stays s F HF.out HV.out (Z n 0) (Z n 1)
        have HW := Lib.hid hW
        have HV2 := Lib.hid hv2
        have HF2 := Lib.hid hF2
        have HG := Lib.hid hGk
        clear hW hv2 hF2 hGk
        have hbr : b < wr.heap.size := Nat.lt_of_lt_of_le hb hRr.up.size
        have hz0 : wr.cell? ⟨b, off + n * 2, none⟩ = some (.int .i64 (Z n 0)) := (hRr.up.cell hb).trans (hc n 0 hnl.1 (by decide))
        have hz1 : wr.cell? ⟨b, off + n * 2 + 1, none⟩ = some (.int .i64 (Z n 1)) := (hRr.up.cell hb).trans (hc n 1 hnl.1 (by decide))
        have hrr := hRr.row
        have KS := Lib.hid (show ∀ w', Up wr w' → (Up wr w' ∧ w'.cell? ⟨b, off + n * 2, none⟩ = some (.int .i64 (Z n 0)) ∧ w'.cell? ⟨b, off + n * 2 + 1, none⟩ = some (.int .i64 (Z n 1)) ∧ RowOK 21 w' g ∧ rowOf w' g = rv [s] 20 F) from fun w' h =>
          ⟨h, (h.cell hbr).trans hz0, (h.cell hbr).trans hz1, RowOK.of ((h.heap (lt_of_block hrr)).trans hrr) (rv_size _ _ _), rowOf_eq ((h.heap (lt_of_block hrr)).trans hrr)⟩)
        obtain ⟨_, k0, k1, k2, k3⟩ := KS.out wr (Up.refl _)
        have HRr := Lib.hid hRr
        clear hRr hrr hz0 hz1 hbr hc hb HR
        go_upto_region 7 with (fail)
        go_cut [5, 6] (fun s5 s6 wx => ∃ g5, s5 = .pointer (some ⟨g5, 0, none⟩) ∧ s6 = .int .i64 x0 ∧ Up wr wx ∧ wr.heap.size ≤ g5 ∧ ∃ t5, wx.heap[g5]? = some (.cells (rv [s'] 20 G) t5 (0, 0)))
        case first =>
          go_region_held3 (fun w' => (Up wr w' ∧ w'.cell? ⟨b, off + n * 2, none⟩ = some (.int .i64 (Z n 0)) ∧ w'.cell? ⟨b, off + n * 2 + 1, none⟩ = some (.int .i64 (Z n 1)) ∧ RowOK 21 w' g ∧ rowOf w' g = rv [s] 20 F)) (exact KS.out _ (by repeat (first | exact Up.refl _ | assumption | refine Up.drew ?_ | refine Up.alloc ?_ _ | refine Up.setRow ?_ (by first | omega | (simp <;> omega)) _))) (first | (go_at_call 11; refine (HW.out _).mono ?_; rintro e w5 ⟨rfl, hB5⟩; have hP5 : Up wr w5 := Up.trans (by repeat (first | exact Up.refl _ | assumption | refine Up.drew ?_ | refine Up.alloc ?_ _)) hB5; have hz5 := hP5.size; (try have hrw5 : RowW 21 w5 wr.heap.size := RowW.later (by first | exact RowW_at _ _ _ _ _ rfl rfl | (rw [RowW_drew]; exact RowW_at _ _ _ _ _ rfl rfl)) hB5)))
          all_goals (go_wp2_with fail; go_meet)
          all_goals first
            | exact ⟨_, rfl, rfl, Up.setRow (hP5.alloc _) hz5 _, hz5, _, setRow_heap _ _ _ _ _ _ (heap_alloc_new _ _)⟩
            | exact ⟨_, rfl, rfl, Up.setRow hP5 (Nat.le_refl _) _, Nat.le_refl _, RowW.set hrw5 _⟩
        case rest =>
          obtain ⟨g5, rfl, rfl, hUx, hg5, t5, hx5⟩ := hcut
          have hgx : g < wc.heap.size := Nat.lt_of_lt_of_le (lt_of_block HRr.out.row) hUx.size
          have q3 : wc.heap[g]? = some (.cells (rv [s] 20 F) 24 (0, 0)) := (hUx.heap (lt_of_block HRr.out.row)).trans HRr.out.row
          have HUx := Lib.hid (HRr.out.up.trans hUx)
          have l5 : g5 < wc.heap.size := lt_of_block hx5
          have l3 : g < g5 := Nat.lt_of_lt_of_le (lt_of_block HRr.out.row) hg5
          clear hUx KS k0 k1 k2 k3
          go_wp2_with (first | (apply load_is (ty := 24); (case ho => rfl); (case hgd => rfl); (case hx => rfl); (case hg => (repeat (first | assumption | (exact setRow_heap _ _ _ _ _ _ (by assumption)) | (refine heap_at _ _ _ ?_; (first | rfl | (simp; done) | (simp <;> omega) | omega); done) | refine heap_drew' _ _ _ ?_ | (apply heap_past; (case hn => (first | rfl | (simp; done) | (simp <;> omega) | omega)))))); (case hu => exact Try.underlying24); (case hd => rfl); (case hi => exact sz21 _ _)) | (apply store_is (ty := 24); (case ho => rfl); (case hgd => rfl); (case hx => rfl); (case hy => rfl); (case h1 => exact rv_one _ _ _); (case hw => (repeat (first | (refine setRow_at _ _ _ _ _ ?_; (first | rfl | (simp; done) | (simp <;> omega) | omega); done) | apply setRow_drew_is | (apply setRow_past_is; (case hn => (first | rfl | (simp; done) | (simp <;> omega) | omega))) | exact rfl))); (case hg => (repeat (first | assumption | (exact setRow_heap _ _ _ _ _ _ (by assumption)) | (refine heap_at _ _ _ ?_; (first | rfl | (simp; done) | (simp <;> omega) | omega); done) | refine heap_drew' _ _ _ ?_ | (apply heap_past; (case hn => (first | rfl | (simp; done) | (simp <;> omega) | omega)))))); (case hi => exact sz21 _ _); (case hold => simp [rv_size])))
          refine (valid_any _ _ _).mono ?_; rintro e w6 ⟨rfl, hU6⟩
          rw [HV2.out]
          have q36 := (hU6.heap hgx).trans q3
          have x6 := (hU6.heap l5).trans hx5
          have l56 : g5 < w6.heap.size := lt_of_block x6
          have l36 : g < w6.heap.size := lt_of_block q36
          clear q3 hx5
          go_wp2_with (first | (apply load_is (ty := 24); (case ho => rfl); (case hgd => rfl); (case hx => rfl); (case hg => (repeat (first | assumption | (exact setRow_heap _ _ _ _ _ _ (by assumption)) | (refine heap_at _ _ _ ?_; (first | rfl | (simp; done) | (simp <;> omega) | omega); done) | refine heap_drew' _ _ _ ?_ | (apply heap_past; (case hn => (first | rfl | (simp; done) | (simp <;> omega) | omega)))))); (case hu => exact Try.underlying24); (case hd => rfl); (case hi => exact sz21 _ _)) | (apply store_is (ty := 24); (case ho => rfl); (case hgd => rfl); (case hx => rfl); (case hy => rfl); (case h1 => exact rv_one _ _ _); (case hw => (repeat (first | (refine setRow_at _ _ _ _ _ ?_; (first | rfl | (simp; done) | (simp <;> omega) | omega); done) | apply setRow_drew_is | (apply setRow_past_is; (case hn => (first | rfl | (simp; done) | (simp <;> omega) | omega))) | exact rfl))); (case hg => (repeat (first | assumption | (exact setRow_heap _ _ _ _ _ _ (by assumption)) | (refine heap_at _ _ _ ?_; (first | rfl | (simp; done) | (simp <;> omega) | omega); done) | refine heap_drew' _ _ _ ?_ | (apply heap_past; (case hn => (first | rfl | (simp; done) | (simp <;> omega) | omega)))))); (case hi => exact sz21 _ _); (case hold => simp [rv_size])))
          refine (rvalid_any _ _ HF2.out _).mono ?_; rintro e w7 ⟨rfl, hU7⟩
          rw [HV2.out]
          have q37 := (hU7.heap l36).trans q36
          have x7 := (hU7.heap l56).trans x6
          have HU7 := Lib.hid ((HUx.out.trans hU6).trans hU7)
          clear q36 x6 hU6 hU7
          go_wp2_with fail
          have l37 : g < w7.heap.size := lt_of_block q37
          have l57 : g5 < w7.heap.size := lt_of_block x7
          have Q37 := Lib.hid q37
          have X7 := Lib.hid x7
          clear q37 x7
          go_loopw [7] (fun k wr => ∃ m : Nat, m ≤ 20 ∧ k = .int .i64 m ∧ Up w7 wr) (fun k _ => 20 - (intOf k).toNat)
          case atStart => exact ⟨0, by omega, rfl, Up.refl _⟩
          case round =>
            obtain ⟨m, hm, rfl, hUm⟩ := hrel
            have q3 := (hUm.heap l37).trans Q37.out
            have x5 := (hUm.heap l57).trans X7.out
            have HUm := Lib.hid hUm
            by_cases hlt : m < 20
            · have m0 : (0 : Int) ≤ (m : Int) := by omega
              have m1 : (m : Int) < 20 := by omega
              have c0 := (cell_of_row _ _ 0 _ _ _ q3).trans (rv1_get0 _ _ _)
              have c1 := (cell_of_row _ _ (1 + m) _ _ _ q3).trans (rv1_get _ _ _ _ hlt)
              have c2 := (cell_of_row _ _ (1 + m) _ _ _ x5).trans (rv1_get _ _ _ _ hlt)
              clear q3 x5 hUm
              by_cases hms : (m : Int) = s
              · have hbq : ((m : Int) != s) = false := by rw [hms]; simp
                clear hms
                go_wp2_with fail
                go_quiet (fail)
                go_wp2_with fail
                go_roundw
                case rel => exact ⟨m + 1, by omega, by go_num, HUm.out.drewN _⟩
                case measure => simp [intOf]; omega
              · have hbq : ((m : Int) != s) = true := by rw [bne_iff_ne]; exact hms
                have hgq : (G m != F m) = false := by rw [HG.out m hms]; simp
                clear hms
                go_wp2_with fail
                go_quiet (fail)
                go_wp2_with fail
                go_roundw
                case rel => exact ⟨m + 1, by omega, by go_num, HUm.out.drewN _⟩
                case measure => simp [intOf]; omega
            · obtain rfl : m = 20 := by omega
              have HRn := Lib.hid (show RW w g 24 (rv [s'] 20 G) (World.setRow wr g (rv [s'] 20 G)) from ⟨Up.setRow (HU7.out.trans hUm) hg _, setRow_heap _ _ _ _ _ _ q3⟩)
              clear hUm
              go_wp2_with (first | (apply load_is (ty := 24); (case ho => rfl); (case hgd => rfl); (case hx => rfl); (case hg => (repeat (first | assumption | (exact setRow_heap _ _ _ _ _ _ (by assumption)) | (refine heap_at _ _ _ ?_; (first | rfl | (simp; done) | (simp <;> omega) | omega); done) | refine heap_drew' _ _ _ ?_ | (apply heap_past; (case hn => (first | rfl | (simp; done) | (simp <;> omega) | omega)))))); (case hu => exact Try.underlying24); (case hd => rfl); (case hi => exact sz21 _ _)) | (apply store_is (ty := 24); (case ho => rfl); (case hgd => rfl); (case hx => rfl); (case hy => rfl); (case h1 => exact rv_one _ _ _); (case hw => (repeat (first | (refine setRow_at _ _ _ _ _ ?_; (first | rfl | (simp; done) | (simp <;> omega) | omega); done) | apply setRow_drew_is | (apply setRow_past_is; (case hn => (first | rfl | (simp; done) | (simp <;> omega) | omega))) | exact rfl))); (case hg => (repeat (first | assumption | (exact setRow_heap _ _ _ _ _ _ (by assumption)) | (refine heap_at _ _ _ ?_; (first | rfl | (simp; done) | (simp <;> omega) | omega); done) | refine heap_drew' _ _ _ ?_ | (apply heap_past; (case hn => (first | rfl | (simp; done) | (simp <;> omega) | omega)))))); (case hi => exact sz21 _ _); (case hold => simp [rv_size])))
              go_roundg gk
              case measure => omega
              case rel => exact ⟨n + 1, s', G, by omega, by go_num, HV2.out, HF2.out, HRn.out⟩
end Go.Proofs.Ythlacommhklkkaa
