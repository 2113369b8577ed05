/- The walk of the law VceBack: it returns true. -/
import Derived.Test.YtandoejbimihoaaM
import Derived.Test.YtandoejbimihoaaLD
import Derived.Lib.Hide
import Derived.Deep.DeepCutAuto
import Derived.Deep.RegionHeld3
namespace Go.Proofs.Ytandoejbimihoaa
open Go.RowKit
open RV
/-- The colours behind n writes from place A on. -/
def backF (A : Nat) (Z : Nat → Int) : Nat → Nat → Int
  | 0 => fun _ => 0
  | n + 1 => upd (backF A Z n) ((A + n) % 512) (Z n % 512)
theorem backF_at (A : Nat) (Z : Nat → Int) (i : Nat) : ∀ n, i < n → n ≤ 512 → backF A Z n ((A + i) % 512) = Z i % 512
  | 0, h, _ => by omega
  | n + 1, h, hn => by
    rw [backF]
    by_cases e : i = n
    · subst e; exact upd_same _ _ _
    · rw [upd_other _ _ _ _ (by omega)]
      exact backF_at A Z i n (by omega) (by omega)
theorem low_high (x z : Int) : vHigh (vLow x (z % 256)) (z / 256 % 256) = z % 512 := by unfold vHigh vLow; omega
theorem from_two (x z : Int) : vHigh (vLow x (z % 256)) (z / 256 % 256) = z % 512 := low_high x z
theorem nat_mod (a : Int) : ∃ j : Nat, a % 512 = (j : Int) := Int.eq_ofNat_of_zero_le (show 0 ≤ a % 512 by omega)
/-- The address, in two parts. -/
theorem write_2any (a z : Int) (F : Nat → Int) (w : World) : Calls Try.prog 9 #[.agg (rv [0, a] 512 F), .int .i64 2, .int .i64 z] w fun e w' => e = .returned (.agg (rv [0, vLow (a % 512) (z % 256)] 512 F)) ∧ Up w w' := by
  obtain ⟨j, hj⟩ := nat_mod a
  rw [hj]
  exact (write_2 0 a F z j hj w).mono fun _ _ h => up_of_eq h (((Up.refl w).alloc _).alloc _)
theorem write_3any (x z : Int) (F : Nat → Int) (w : World) : Calls Try.prog 9 #[.agg (rv [0, vLow x (z % 256)] 512 F), .int .i64 3, .int .i64 (z / 256)] w fun e w' => e = .returned (.agg (rv [0, z % 512] 512 F)) ∧ Up w w' := by
  obtain ⟨j, hj⟩ := nat_mod (vLow x (z % 256))
  have e : vHigh (j : Int) (z / 256 % 256) = z % 512 := by
    rw [← low_high x z, ← hj]; unfold vHigh; omega
  refine (write_3 0 _ F (z / 256) j hj w).mono fun _ _ h => ?_
  rw [e] at h
  exact up_of_eq h (((Up.refl w).alloc _).alloc _)
/-- One of the two bytes of a colour. -/
def wres (j : Nat) (H : Nat → Int) (at0 b : Int) : Array Value := if at0 = 4 then rv [0, (j : Int)] 512 (upd H j (vLow (H j) (b % 256))) else rv [0, ((j : Int) + 1) % 512] 512 (upd H j (vHigh (H j) (b % 256)))
theorem write_45 (j : Nat) (hj : j < 512) (H : Nat → Int) (at0 b : Int) (ha : at0 = 4 ∨ at0 = 5) (w : World) : Calls Try.prog 9 #[.agg (rv [0, (j : Int)] 512 H), .int .i64 at0, .int .i64 b] w fun e w' => e = .returned (.agg (wres j H at0 b)) ∧ Up w w' := by
  have hj' : (j : Int) % 512 = (j : Int) := by omega
  rcases ha with rfl | rfl
  · exact (write_4 0 _ H b j hj' w).mono fun _ _ h => up_of_eq h (((Up.refl w).alloc _).alloc _)
  · exact (write_5 0 _ H b j hj' w).mono fun _ _ h => up_of_eq h (((Up.refl w).alloc _).alloc _)
theorem wres_4 (j : Nat) (H : Nat → Int) (b : Int) : wres j H 4 b = rv [0, (j : Int)] 512 (upd H j (vLow (H j) (b % 256))) := if_pos rfl
theorem wres_5 (j : Nat) (H : Nat → Int) (z : Int) : wres j (upd H j (vLow (H j) (z % 256))) 5 (z / 256) = rv [0, ((j : Int) + 1) % 512] 512 (upd H j (z % 512)) := by
  unfold wres
  rw [if_neg (by decide), upd_same, upd_upd, low_high]
theorem RowOK_drew (n : Nat) (w : World) (g : Nat) : RowOK n w.drew g = RowOK n w g := rfl
theorem rowOf_drew (w : World) (g : Nat) : rowOf w.drew g = rowOf w g := rfl
/-- Block g is a row of n cells of the call's own. -/
def RowW (n : Nat) (w : World) (g : Nat) : Prop := ∃ c t, w.heap[g]? = some (.cells c t (0, 0)) ∧ c.size = n
theorem RowW_drew (n : Nat) (w : World) (g : Nat) : RowW n w.drew g = RowW n w g := rfl
theorem RowW.of {n : Nat} {w : World} {g : Nat} {c : Array Value} {t : TypeId} (h : w.heap[g]? = some (.cells c t (0, 0))) (hn : c.size = n) : RowW n w g := ⟨c, t, h, hn⟩
def st514 (p v : Value) : Sem Unit := Instr.storeAt 24 p v
theorem to_st514 (p v : Value) : Instr.storeAt 24 p v = st514 p v := rfl
theorem run_st514 (w : World) (g : Nat) (s t : Int) (F : Nat → Int) (h : RowW 514 w g) : (st514 (.pointer (some ⟨g, 0, none⟩)) (.agg (rv [s, t] 512 F))).run Try.prog w = .ok () (w.setRow g (rv [s, t] 512 F)) := by
  obtain ⟨c, ty, hg, hn⟩ := h
  have hl := run_storeVar_row (P := Try.prog) w g ty 24 c (rv [s, t] 512 F) hg (sz514 _ _ _) (by rw [hn, rv_size]; rfl) (rv_one _ _ _)
  simp only [st514, Instr.storeAt, Instr.sureAddr, Sem.run_bind, Sem.run_pure, Result.andThen_ok]
  exact hl
theorem colour_upj (ct a : Int) (F : Nat → Int) (k : Int) (j : Nat) (hk : k % 512 = (j : Int)) (w : World) : Calls Try.prog 7 #[.agg (rv [ct, a] 512 F), .int .i64 k] w fun e w' => e = .returned (.int .i64 (vCol ct (F j % 512))) ∧ Up w w' :=
  (colour_at ct a F k j hk w).mono fun _ _ h => up_of_eq h ((Up.refl w).alloc _)
theorem dot_up (ct a : Int) (F : Nat → Int) (w : World) : Calls Try.prog 11 #[.agg (rv [ct, a] 512 F)] w fun e w' => e = .returned (.int .i64 (vDot ct)) ∧ Up w w' :=
  (dot_any ct a F w).mono fun _ _ h => up_of_eq h ((Up.refl w).alloc _)
theorem lines_up (ct a : Int) (F : Nat → Int) (w : World) : Calls Try.prog 12 #[.agg (rv [ct, a] 512 F)] w fun e w' => e = .returned (.int .i64 (262 + BM.vBit ct 2)) ∧ Up w w' :=
  (lines_any ct a F w).mono fun _ _ h => up_of_eq h ((Up.refl w).alloc _)
theorem read_4up (ct a : Int) (F : Nat → Int) (j : Nat) (hk : a % 512 = (j : Int)) (w : World) : Calls Try.prog 10 #[.agg (rv [ct, a] 512 F), .int .i64 4] w fun e w' => e = .returned (.tuple #[.int .i64 (F j % 256), .agg (rv [ct, (j : Int)] 512 F)]) ∧ Up w w' :=
  (read_4 ct a F j hk w).mono fun _ _ h => up_of_eq h ((((Up.refl w).alloc _).alloc _).drew)
attribute [local go_sem ↓ high] to_ld514 to_st514
attribute [local go_sem] run_ld514 rv2_get0 rv2_get1 BM.and511 BM.and255 BM.and1 zv514 run_st514 RowOK_drew rowOf_drew RowW_drew
set_option maxHeartbeats 8000000 in
set_option maxRecDepth 20000 in
theorem walk_vceBack (w : World) (z : Int) (_h1 : -9223372036854775808 ≤ z ∧ z ≤ 9223372036854775807) (a : Option Addr) (len cap : Nat) (Z : Nat → Int) (hZ : OP.IsRow w a len cap Z) :
    Calls Try.prog 6 #[.int .i64 z, .slice a len cap] w fun e w' => e = .returned (.bool true) ∧ Below w.heap.size w w' := by
  obtain ⟨N, hN⟩ : ∃ N, min len 100 = N := ⟨_, rfl⟩
  obtain ⟨hlc, hcm, hzr, hrow⟩ := hZ
  have HR := Lib.hid hrow
  have hlen : len ≤ 9223372036854775807 := by omega
  clear hrow
  go_enter Try.func6, Try.ntmps6
  go_upto_if 14 with (fail)
  go_cut [1, 15, 16] (fun s1 s15 s16 wx => s1 = .slice a N cap ∧ wx = w)
  case first =>
    by_cases hl : 100 < len
    · have d0 : decide (100 < (len : Int)) = true := decide_eq_true (by omega)
      obtain rfl : N = 100 := by omega
      rcases HR.out with h | ⟨b, off, rfl, hb, hc⟩
      · omega
      · have e1 : (100 : Int) ≤ (cap : Int) := by omega
        clear HR hc hN
        go_wp2_with fail
        go_meet
        exact ⟨rfl, rfl⟩
    · have d0 : decide (100 < (len : Int)) = false := decide_eq_false (by omega)
      obtain rfl : N = len := by omega
      clear HR hN
      go_wp2_with fail
      go_meet
      exact ⟨rfl, rfl⟩
  case rest =>
    obtain ⟨rfl, rfl⟩ := hcut
    obtain ⟨A, hA⟩ := nat_mod z
    have hA5 : A < 512 := by omega
    have WT := Lib.hid (show ∀ (x : Int) (F : Nat → Int) (w : World), Calls Try.prog 9 #[.agg (rv [0, vLow x (z % 256)] 512 F), .int .i64 3, .int .i64 (z / 256)] w (fun e w' => e = .returned (.agg (rv [0, (A : Int)] 512 F)) ∧ Up w w') from fun x F w => by
      have h := write_3any x z F w
      rw [hA] at h; exact h)
    have HN := Lib.hid hN
    have HA := Lib.hid hA
    clear hN hA
    go_wp2_with (first | (apply load_is (ty := 24); (case ho => rfl); (case hgd => rfl); (case hx => rfl); (case hg => (repeat (first | assumption | (exact setRow_heap _ _ _ _ _ _ (by assumption)) | (refine heap_at _ _ _ ?_; (first | rfl | (simp; done) | (simp <;> omega) | omega); done) | refine heap_drew' _ _ _ ?_ | (apply heap_past; (case hn => (first | rfl | (simp; done) | (simp <;> omega) | omega)))))); (case hu => exact Try.underlying24); (case hd => rfl); (case hi => exact sz514 _ _ _)) | (apply store_is (ty := 24); (case ho => rfl); (case hgd => rfl); (case hx => rfl); (case hy => rfl); (case h1 => exact rv_one _ _ _); (case hw => (repeat (first | (refine setRow_at _ _ _ _ _ ?_; (first | rfl | (simp; done) | (simp <;> omega) | omega); done) | apply setRow_drew_is | (apply setRow_past_is; (case hn => (first | rfl | (simp; done) | (simp <;> omega) | omega))) | exact rfl))); (case hg => (repeat (first | assumption | (exact setRow_heap _ _ _ _ _ _ (by assumption)) | (refine heap_at _ _ _ ?_; (first | rfl | (simp; done) | (simp <;> omega) | omega); done) | refine heap_drew' _ _ _ ?_ | (apply heap_past; (case hn => (first | rfl | (simp; done) | (simp <;> omega) | omega)))))); (case hi => exact sz514 _ _ _); (case hold => simp [rv_size])) | (apply build_is (t := 24); (case ho => rfl); (case hg => rfl); (case hf => (first | (rw [Array.toList_map]; exact built_vce0) | exact built_vce0))))
    refine (write_2any 0 z _ _).mono ?_; rintro e w1 ⟨rfl, hU1⟩
    go_wp2_with (first | (apply load_is (ty := 24); (case ho => rfl); (case hgd => rfl); (case hx => rfl); (case hg => (repeat (first | assumption | (exact setRow_heap _ _ _ _ _ _ (by assumption)) | (refine heap_at _ _ _ ?_; (first | rfl | (simp; done) | (simp <;> omega) | omega); done) | refine heap_drew' _ _ _ ?_ | (apply heap_past; (case hn => (first | rfl | (simp; done) | (simp <;> omega) | omega)))))); (case hu => exact Try.underlying24); (case hd => rfl); (case hi => exact sz514 _ _ _)) | (apply store_is (ty := 24); (case ho => rfl); (case hgd => rfl); (case hx => rfl); (case hy => rfl); (case h1 => exact rv_one _ _ _); (case hw => (repeat (first | (refine setRow_at _ _ _ _ _ ?_; (first | rfl | (simp; done) | (simp <;> omega) | omega); done) | apply setRow_drew_is | (apply setRow_past_is; (case hn => (first | rfl | (simp; done) | (simp <;> omega) | omega))) | exact rfl))); (case hg => (repeat (first | assumption | (exact setRow_heap _ _ _ _ _ _ (by assumption)) | (refine heap_at _ _ _ ?_; (first | rfl | (simp; done) | (simp <;> omega) | omega); done) | refine heap_drew' _ _ _ ?_ | (apply heap_past; (case hn => (first | rfl | (simp; done) | (simp <;> omega) | omega)))))); (case hi => exact sz514 _ _ _); (case hold => simp [rv_size])) | (apply build_is (t := 24); (case ho => rfl); (case hg => rfl); (case hf => (first | (rw [Array.toList_map]; exact built_vce0) | exact built_vce0))))
    refine (WT.out _ _ _).mono ?_; rintro e w2 ⟨rfl, hU2⟩
    have hU := hU1.trans hU2
    have hg : wc.heap.size ≤ w2.heap.size := hU.size
    clear hU1 hU2
    go_wp2_with (first | (apply load_is (ty := 24); (case ho => rfl); (case hgd => rfl); (case hx => rfl); (case hg => (repeat (first | assumption | (exact setRow_heap _ _ _ _ _ _ (by assumption)) | (refine heap_at _ _ _ ?_; (first | rfl | (simp; done) | (simp <;> omega) | omega); done) | refine heap_drew' _ _ _ ?_ | (apply heap_past; (case hn => (first | rfl | (simp; done) | (simp <;> omega) | omega)))))); (case hu => exact Try.underlying24); (case hd => rfl); (case hi => exact sz514 _ _ _)) | (apply store_is (ty := 24); (case ho => rfl); (case hgd => rfl); (case hx => rfl); (case hy => rfl); (case h1 => exact rv_one _ _ _); (case hw => (repeat (first | (refine setRow_at _ _ _ _ _ ?_; (first | rfl | (simp; done) | (simp <;> omega) | omega); done) | apply setRow_drew_is | (apply setRow_past_is; (case hn => (first | rfl | (simp; done) | (simp <;> omega) | omega))) | exact rfl))); (case hg => (repeat (first | assumption | (exact setRow_heap _ _ _ _ _ _ (by assumption)) | (refine heap_at _ _ _ ?_; (first | rfl | (simp; done) | (simp <;> omega) | omega); done) | refine heap_drew' _ _ _ ?_ | (apply heap_past; (case hn => (first | rfl | (simp; done) | (simp <;> omega) | omega)))))); (case hi => exact sz514 _ _ _); (case hold => simp [rv_size])) | (apply build_is (t := 24); (case ho => rfl); (case hg => rfl); (case hf => (first | (rw [Array.toList_map]; exact built_vce0) | exact built_vce0))))
    have hR : RW wc w2.heap.size 24 (rv [0, (A : Int)] 512 fun _ => 0) (w2.alloc (.cells (rv [0, (A : Int)] 512 fun _ => 0) 24)) := ⟨hU.alloc _, heap_alloc_new _ _⟩
    generalize w2.alloc (.cells (rv [0, (A : Int)] 512 fun _ => 0) 24) = W0 at *
    obtain ⟨g, hgg⟩ : ∃ g, w2.heap.size = g := ⟨_, rfl⟩
    rw [hgg] at hR hg ⊢
    clear hgg hU
    go_loopw [6] (fun i wr => ∃ n : Nat, n ≤ N ∧ i = .int .i64 n ∧ RW wc g 24 (rv [0, (((A + n) % 512 : Nat) : Int)] 512 (backF A Z n)) wr) (fun i _ => N - (intOf i).toNat)
    case atStart => exact ⟨0, by omega, rfl, by rw [Nat.add_zero, Nat.mod_eq_of_lt hA5]; exact hR⟩
    case round =>
      obtain ⟨n, hn, rfl, hRr⟩ := hrel
      by_cases hlt : n < N
      · rcases HR.out with h | ⟨b, off, rfl, hb, hc⟩
        · exact absurd h (by have := HN.out; omega)
        · have hlt' : (n : Int) < (N : Int) := by omega
          have dlt : decide ((n : Int) < (N : Int)) = true := decide_eq_true hlt'
          have n0 : (0 : Int) ≤ (n : Int) := by omega
          have n9 : (n : Int) ≤ 100 := by have := HN.out; omega
          obtain ⟨j, hj⟩ : ∃ j, (A + n) % 512 = j := ⟨_, rfl⟩
          have hj5 : j < 512 := by omega
          obtain ⟨H, hH⟩ : ∃ H, backF A Z n = H := ⟨_, rfl⟩
          have HS := Lib.hid (show upd H j (Z n % 512) = backF A Z (n + 1) by rw [backF, hj, hH])
          have HJ := Lib.hid (show ((((A + (n + 1)) % 512 : Nat)) : Int) = ((j : Int) + 1) % 512 by omega)
          rw [hj, hH] at hRr
          have hbz : b < wr.heap.size := Nat.lt_of_lt_of_le hb hRr.up.size
          have KS := Lib.hid (show ∀ w', Up wr w' → (Up wr w' ∧ w'.cell? ⟨b, off + n, none⟩ = some (.int .i64 (Z n)) ∧ RowOK 514 w' g ∧ rowOf w' g = rv [0, (j : Int)] 512 H ∧ RowW 514 w' g) from fun w' h =>
            ⟨h, (h.cell hbz).trans ((hRr.up.cell hb).trans (hc n (by have := HN.out; omega))), RowOK.of ((h.heap (lt_of_block hRr.row)).trans hRr.row) (rv_size _ _ _), rowOf_eq ((h.heap (lt_of_block hRr.row)).trans hRr.row), RowW.of ((h.heap (lt_of_block hRr.row)).trans hRr.row) (rv_size _ _ _)⟩)
          have WC := Lib.hid (fun H at0 b ha w => write_45 j hj5 H at0 b ha w)
          have HRr := Lib.hid hRr
          obtain ⟨_, k1, k2, k3, k4⟩ := KS.out wr (Up.refl _)
          obtain ⟨_, kd1, kd2, kd3, kd4⟩ := KS.out wr.drew (Up.drew (Up.refl _))
          clear hj hH hc hRr HR WT hb hbz hR hA5
          go_wp2_with fail
          go_region_with ((first | (go_at_call 9; refine (WC.out _ _ _ (by decide) _).mono ?_; rintro e w5 ⟨rfl, hB5⟩; (try simp only [wres_4, wres_5]); obtain ⟨hP5, hx1, hx2, hx3, hx4⟩ := KS.out w5 (by first | exact Up.trans (by assumption) hB5 | exact Up.trans (Up.drew (Up.refl wr)) hB5))))
          all_goals
            (have hW5 := HRr.out.later hP5
             have HRn := Lib.hid (show RW wc g 24 (rv [0, (((A + (n + 1)) % 512 : Nat) : Int)] 512 (backF A Z (n + 1))) (w5.setRow g (rv [0, ((j : Int) + 1) % 512] 512 (upd H j (Z n % 512)))) from ⟨Up.setRow hW5.up hg _, by rw [setRow_heap _ _ _ _ _ _ hW5.row, HJ.out, HS.out]⟩)
             clear hW5
             go_wp2_with fail
             go_roundw
             case rel => exact ⟨n + 1, by omega, by go_num, HRn.out⟩
             case measure => simp [intOf]; omega)
      · obtain rfl : n = N := by omega
        have hd : decide ((n : Int) < (n : Int)) = false := decide_eq_false (by omega)
        have HRr := Lib.hid hRr
        obtain ⟨j, hj⟩ : ∃ j, (A + n) % 512 = j := ⟨_, rfl⟩
        rw [hj] at hRr
        have c1 : wr.cell? ⟨g, 1, none⟩ = some (.int .i64 (j : Int)) := (cell_of_row _ _ _ _ _ _ hRr.row).trans (rv2_get1 _ _ _ _)
        have hwr : wrap64 (z + (n : Int)) % 512 = (j : Int) := by unfold wrap64; have := HA.out; omega
        have q0 := hRr.row
        clear hR hj
        go_wp2_with (first | (apply load_is (ty := 24); (case ho => rfl); (case hgd => rfl); (case hx => rfl); (case hg => (repeat (first | assumption | (exact setRow_heap _ _ _ _ _ _ (by assumption)) | (refine heap_at _ _ _ ?_; (first | rfl | (simp; done) | (simp <;> omega) | omega); done) | refine heap_drew' _ _ _ ?_ | (apply heap_past; (case hn => (first | rfl | (simp; done) | (simp <;> omega) | omega)))))); (case hu => exact Try.underlying24); (case hd => rfl); (case hi => exact sz514 _ _ _)) | (apply store_is (ty := 24); (case ho => rfl); (case hgd => rfl); (case hx => rfl); (case hy => rfl); (case h1 => exact rv_one _ _ _); (case hw => (repeat (first | (refine setRow_at _ _ _ _ _ ?_; (first | rfl | (simp; done) | (simp <;> omega) | omega); done) | apply setRow_drew_is | (apply setRow_past_is; (case hn => (first | rfl | (simp; done) | (simp <;> omega) | omega))) | exact rfl))); (case hg => (repeat (first | assumption | (exact setRow_heap _ _ _ _ _ _ (by assumption)) | (refine heap_at _ _ _ ?_; (first | rfl | (simp; done) | (simp <;> omega) | omega); done) | refine heap_drew' _ _ _ ?_ | (apply heap_past; (case hn => (first | rfl | (simp; done) | (simp <;> omega) | omega)))))); (case hi => exact sz514 _ _ _); (case hold => simp [rv_size])) | (apply build_is (t := 24); (case ho => rfl); (case hg => rfl); (case hf => (first | (rw [Array.toList_map]; exact built_vce0) | exact built_vce0))))
        refine (write_2any _ z _ _).mono ?_; rintro e w3 ⟨rfl, hU3⟩
        have q3 := (hU3.heap (lt_of_block q0)).trans q0
        clear q0
        go_wp2_with (first | (apply load_is (ty := 24); (case ho => rfl); (case hgd => rfl); (case hx => rfl); (case hg => (repeat (first | assumption | (exact setRow_heap _ _ _ _ _ _ (by assumption)) | (refine heap_at _ _ _ ?_; (first | rfl | (simp; done) | (simp <;> omega) | omega); done) | refine heap_drew' _ _ _ ?_ | (apply heap_past; (case hn => (first | rfl | (simp; done) | (simp <;> omega) | omega)))))); (case hu => exact Try.underlying24); (case hd => rfl); (case hi => exact sz514 _ _ _)) | (apply store_is (ty := 24); (case ho => rfl); (case hgd => rfl); (case hx => rfl); (case hy => rfl); (case h1 => exact rv_one _ _ _); (case hw => (repeat (first | (refine setRow_at _ _ _ _ _ ?_; (first | rfl | (simp; done) | (simp <;> omega) | omega); done) | apply setRow_drew_is | (apply setRow_past_is; (case hn => (first | rfl | (simp; done) | (simp <;> omega) | omega))) | exact rfl))); (case hg => (repeat (first | assumption | (exact setRow_heap _ _ _ _ _ _ (by assumption)) | (refine heap_at _ _ _ ?_; (first | rfl | (simp; done) | (simp <;> omega) | omega); done) | refine heap_drew' _ _ _ ?_ | (apply heap_past; (case hn => (first | rfl | (simp; done) | (simp <;> omega) | omega)))))); (case hi => exact sz514 _ _ _); (case hold => simp [rv_size])) | (apply build_is (t := 24); (case ho => rfl); (case hg => rfl); (case hf => (first | (rw [Array.toList_map]; exact built_vce0) | exact built_vce0))))
        refine (WT.out _ _ _).mono ?_; rintro e w4 ⟨rfl, hU4⟩
        have q4 := (hU4.heap (lt_of_block q3)).trans q3
        have hU5 := (HRr.out.up.trans hU3).trans hU4
        clear q3 hU3 hU4 c1 hwr
        go_wp2_with (first | (apply load_is (ty := 24); (case ho => rfl); (case hgd => rfl); (case hx => rfl); (case hg => (repeat (first | assumption | (exact setRow_heap _ _ _ _ _ _ (by assumption)) | (refine heap_at _ _ _ ?_; (first | rfl | (simp; done) | (simp <;> omega) | omega); done) | refine heap_drew' _ _ _ ?_ | (apply heap_past; (case hn => (first | rfl | (simp; done) | (simp <;> omega) | omega)))))); (case hu => exact Try.underlying24); (case hd => rfl); (case hi => exact sz514 _ _ _)) | (apply store_is (ty := 24); (case ho => rfl); (case hgd => rfl); (case hx => rfl); (case hy => rfl); (case h1 => exact rv_one _ _ _); (case hw => (repeat (first | (refine setRow_at _ _ _ _ _ ?_; (first | rfl | (simp; done) | (simp <;> omega) | omega); done) | apply setRow_drew_is | (apply setRow_past_is; (case hn => (first | rfl | (simp; done) | (simp <;> omega) | omega))) | exact rfl))); (case hg => (repeat (first | assumption | (exact setRow_heap _ _ _ _ _ _ (by assumption)) | (refine heap_at _ _ _ ?_; (first | rfl | (simp; done) | (simp <;> omega) | omega); done) | refine heap_drew' _ _ _ ?_ | (apply heap_past; (case hn => (first | rfl | (simp; done) | (simp <;> omega) | omega)))))); (case hi => exact sz514 _ _ _); (case hold => simp [rv_size])) | (apply build_is (t := 24); (case ho => rfl); (case hg => rfl); (case hf => (first | (rw [Array.toList_map]; exact built_vce0) | exact built_vce0))))
        have hR2 : RW wc g 24 (rv [0, (A : Int)] 512 (backF A Z n)) (w4.setRow g (rv [0, (A : Int)] 512 (backF A Z n))) := ⟨Up.setRow hU5 hg _, setRow_heap _ _ _ _ _ _ q4⟩
        generalize w4.setRow g (rv [0, (A : Int)] 512 (backF A Z n)) = W1 at *
        clear q4 hU5 HRr WT
        have hN5 : n ≤ 100 := by have := HN.out; omega
        obtain ⟨FF, hFF⟩ : ∃ FF, backF A Z n = FF := ⟨_, rfl⟩
        have HFF := Lib.hid (show ∀ i, i < n → FF ((A + i) % 512) = Z i % 512 from fun i hi => by rw [← hFF]; exact backF_at A Z i n hi (by omega))
        rw [hFF] at hR2 ⊢
        clear hFF hd
        go_loopw [7, 8, 9, 10, 11] (fun i _ _ _ _ wr => ∃ m : Nat, m ≤ n ∧ i = .int .i64 m ∧ RW wc g 24 (rv [0, (((A + m) % 512 : Nat) : Int)] 512 FF) wr) (fun i _ _ _ _ _ => n - (intOf i).toNat)
        case atStart => exact ⟨0, by omega, rfl, by rw [Nat.add_zero, Nat.mod_eq_of_lt hA5]; exact hR2⟩
        case round =>
          obtain ⟨m, hm, rfl, hRm⟩ := hrel
          by_cases hlt : m < n
          · rcases HR.out with h | ⟨b, off, rfl, hb, hc⟩
            · exact absurd h (by have := HN.out; omega)
            · have hlt' : (m : Int) < (n : Int) := by omega
              have dlt : decide ((m : Int) < (n : Int)) = true := decide_eq_true hlt'
              have m0 : (0 : Int) ≤ (m : Int) := by omega
              have m9 : (m : Int) ≤ 100 := by omega
              obtain ⟨j, hj⟩ : ∃ j, (A + m) % 512 = j := ⟨_, rfl⟩
              have hj5 : j < 512 := by omega
              have hfj : FF j = Z m % 512 := by rw [← hj]; exact HFF.out m hlt
              have HJ := Lib.hid (show ((((A + (m + 1)) % 512 : Nat)) : Int) = ((j : Int) + 1) % 512 by omega)
              have hkm : wrap64 (z + (m : Int)) % 512 = (j : Int) := by unfold wrap64; have := HA.out; omega
              rw [hj] at hRm
              obtain ⟨B8, h8⟩ : ∃ x, FF j % 256 = x := ⟨_, rfl⟩
              obtain ⟨B10, h10⟩ : ∃ x, 254 + FF j % 512 / 256 = x := ⟨_, rfl⟩
              obtain ⟨B9, h9⟩ : ∃ x, FF j % 512 = x := ⟨_, rfl⟩
              have hcell := hc m (by have := HN.out; omega)
              have b8 : (B8 != Z m % 256) = false := by rw [← h8, hfj, show Z m % 512 % 256 = Z m % 256 by omega]; simp
              have b9 : (B9 != Z m % 512) = false := by rw [← h9, hfj, show Z m % 512 % 512 = Z m % 512 by omega]; simp
              have b10 : (B10 != bits .or .i64 254 (Z m / 256 % 2)) = false := by
                have ho : bits .or .i64 254 (Z m / 256 % 2) = 254 + Z m / 256 % 2 := BM.or_join 1 254 (Z m / 256 % 2) (by omega) (by decide) (by omega) (by omega) (by show _ < (2 : Int); omega) (by omega)
                rw [← h10, hfj, ho, show Z m % 512 % 512 / 256 = Z m / 256 % 2 by omega]; simp
              have R4 := Lib.hid (show ∀ w, Calls Try.prog 10 #[.agg (rv [0, (j : Int)] 512 FF), .int .i64 4] w (fun e w' => e = .returned (.tuple #[.int .i64 B8, .agg (rv [0, (j : Int)] 512 FF)]) ∧ Up w w') from fun w => by
                have h := read_4up 0 j FF j (by omega) w
                rw [h8] at h; exact h)
              have R5 := Lib.hid (show ∀ w, Calls Try.prog 10 #[.agg (rv [0, (j : Int)] 512 FF), .int .i64 5] w (fun e w' => e = .returned (.tuple #[.int .i64 B10, .agg (rv [0, ((j : Int) + 1) % 512] 512 FF)]) ∧ Up w w') from fun w => by
                have h := read_5up 0 j FF j (by omega) w
                rw [h10] at h; exact h)
              have hkm2 : IntKind.i64.wrap (z + (m : Int)) % 512 = (j : Int) := by rw [IntKind.wrap_i64]; have := HA.out; omega
              have CO := Lib.hid (show ∀ k : Int, k = wrap64 (z + (m : Int)) ∨ k = IntKind.i64.wrap (z + (m : Int)) → ∀ w, Calls Try.prog 7 #[.agg (rv [0, ((j : Int) + 1) % 512] 512 FF), .int .i64 k] w (fun e w' => e = .returned (.int .i64 B9) ∧ Up w w') from fun k hk w => by
                have h := colour_upj 0 (((j : Int) + 1) % 512) FF k j (by rcases hk with rfl | rfl; exact hkm; exact hkm2) w
                rw [h9, show vCol 0 B9 = B9 from if_pos (by decide +kernel)] at h; exact h)
              clear hkm2
              have q4 := hRm.row
              have hbr : b < wr.heap.size := Nat.lt_of_lt_of_le hb hRm.up.size
              have hcell4 : wr.cell? ⟨b, off + m, none⟩ = some (.int .i64 (Z m)) := (hRm.up.cell hb).trans hcell
              have l4 : g < wr.heap.size := lt_of_block q4
              have HUm := Lib.hid hRm.up
              clear hj hfj hkm h8 h9 h10 hRm hcell hR2 hb hc HR
              go_wp2_with (first | (apply load_is (ty := 24); (case ho => rfl); (case hgd => rfl); (case hx => rfl); (case hg => (repeat (first | assumption | (exact setRow_heap _ _ _ _ _ _ (by assumption)) | (refine heap_at _ _ _ ?_; (first | rfl | (simp; done) | (simp <;> omega) | omega); done) | refine heap_drew' _ _ _ ?_ | (apply heap_past; (case hn => (first | rfl | (simp; done) | (simp <;> omega) | omega)))))); (case hu => exact Try.underlying24); (case hd => rfl); (case hi => exact sz514 _ _ _)) | (apply store_is (ty := 24); (case ho => rfl); (case hgd => rfl); (case hx => rfl); (case hy => rfl); (case h1 => exact rv_one _ _ _); (case hw => (repeat (first | (refine setRow_at _ _ _ _ _ ?_; (first | rfl | (simp; done) | (simp <;> omega) | omega); done) | apply setRow_drew_is | (apply setRow_past_is; (case hn => (first | rfl | (simp; done) | (simp <;> omega) | omega))) | exact rfl))); (case hg => (repeat (first | assumption | (exact setRow_heap _ _ _ _ _ _ (by assumption)) | (refine heap_at _ _ _ ?_; (first | rfl | (simp; done) | (simp <;> omega) | omega); done) | refine heap_drew' _ _ _ ?_ | (apply heap_past; (case hn => (first | rfl | (simp; done) | (simp <;> omega) | omega)))))); (case hi => exact sz514 _ _ _); (case hold => simp [rv_size])) | (apply build_is (t := 24); (case ho => rfl); (case hg => rfl); (case hf => (first | (rw [Array.toList_map]; exact built_vce0) | exact built_vce0))))
              refine (R4.out _).mono ?_; rintro e w5 ⟨rfl, hU5⟩
              have q5 : w5.heap[g]? = some (.cells (rv [0, (j : Int)] 512 FF) 24 (0, 0)) := (hU5.heap l4).trans q4
              have l5 : g < w5.heap.size := lt_of_block q5
              have hcell5 : w5.cell? ⟨b, off + m, none⟩ = some (.int .i64 (Z m)) := (hU5.cell hbr).trans hcell4
              have hb5 : b < w5.heap.size := Nat.lt_of_lt_of_le hbr hU5.size
              clear q4
              go_wp2_with (first | (apply load_is (ty := 24); (case ho => rfl); (case hgd => rfl); (case hx => rfl); (case hg => (repeat (first | assumption | (exact setRow_heap _ _ _ _ _ _ (by assumption)) | (refine heap_at _ _ _ ?_; (first | rfl | (simp; done) | (simp <;> omega) | omega); done) | refine heap_drew' _ _ _ ?_ | (apply heap_past; (case hn => (first | rfl | (simp; done) | (simp <;> omega) | omega)))))); (case hu => exact Try.underlying24); (case hd => rfl); (case hi => exact sz514 _ _ _)) | (apply store_is (ty := 24); (case ho => rfl); (case hgd => rfl); (case hx => rfl); (case hy => rfl); (case h1 => exact rv_one _ _ _); (case hw => (repeat (first | (refine setRow_at _ _ _ _ _ ?_; (first | rfl | (simp; done) | (simp <;> omega) | omega); done) | apply setRow_drew_is | (apply setRow_past_is; (case hn => (first | rfl | (simp; done) | (simp <;> omega) | omega))) | exact rfl))); (case hg => (repeat (first | assumption | (exact setRow_heap _ _ _ _ _ _ (by assumption)) | (refine heap_at _ _ _ ?_; (first | rfl | (simp; done) | (simp <;> omega) | omega); done) | refine heap_drew' _ _ _ ?_ | (apply heap_past; (case hn => (first | rfl | (simp; done) | (simp <;> omega) | omega)))))); (case hi => exact sz514 _ _ _); (case hold => simp [rv_size])) | (apply build_is (t := 24); (case ho => rfl); (case hg => rfl); (case hf => (first | (rw [Array.toList_map]; exact built_vce0) | exact built_vce0))))
              refine (R5.out _).mono ?_; rintro e w6 ⟨rfl, hU6⟩
              have z6 := hU6.size
              simp only [World.size_alloc] at z6
              have q6 : w6.heap[g]? = some (.cells (rv [0, (j : Int)] 512 FF) 24 (0, 0)) := (hU6.heap (by simp only [World.size_alloc]; omega)).trans (by (repeat (first | assumption | (exact setRow_heap _ _ _ _ _ _ (by assumption)) | (refine heap_at _ _ _ ?_; (first | rfl | (simp; done) | (simp <;> omega) | omega); done) | refine heap_drew' _ _ _ ?_ | (apply heap_past; (case hn => (first | rfl | (simp; done) | (simp <;> omega) | omega))))))
              have hcell6 : w6.cell? ⟨b, off + m, none⟩ = some (.int .i64 (Z m)) := (hU6.cell (by simp only [World.size_alloc]; omega)).trans ((World.cell?_alloc_lt w5 _ _ hb5).trans hcell5)
              have hb6 : b < w6.heap.size := by omega
              have l6 : g < w6.heap.size := lt_of_block q6
              have hUm6 := ((HUm.out.trans hU5).alloc _).trans hU6
              clear q5
              go_wp2_with (first | (apply load_is (ty := 24); (case ho => rfl); (case hgd => rfl); (case hx => rfl); (case hg => (repeat (first | assumption | (exact setRow_heap _ _ _ _ _ _ (by assumption)) | (refine heap_at _ _ _ ?_; (first | rfl | (simp; done) | (simp <;> omega) | omega); done) | refine heap_drew' _ _ _ ?_ | (apply heap_past; (case hn => (first | rfl | (simp; done) | (simp <;> omega) | omega)))))); (case hu => exact Try.underlying24); (case hd => rfl); (case hi => exact sz514 _ _ _)) | (apply store_is (ty := 24); (case ho => rfl); (case hgd => rfl); (case hx => rfl); (case hy => rfl); (case h1 => exact rv_one _ _ _); (case hw => (repeat (first | (refine setRow_at _ _ _ _ _ ?_; (first | rfl | (simp; done) | (simp <;> omega) | omega); done) | apply setRow_drew_is | (apply setRow_past_is; (case hn => (first | rfl | (simp; done) | (simp <;> omega) | omega))) | exact rfl))); (case hg => (repeat (first | assumption | (exact setRow_heap _ _ _ _ _ _ (by assumption)) | (refine heap_at _ _ _ ?_; (first | rfl | (simp; done) | (simp <;> omega) | omega); done) | refine heap_drew' _ _ _ ?_ | (apply heap_past; (case hn => (first | rfl | (simp; done) | (simp <;> omega) | omega)))))); (case hi => exact sz514 _ _ _); (case hold => simp [rv_size])) | (apply build_is (t := 24); (case ho => rfl); (case hg => rfl); (case hf => (first | (rw [Array.toList_map]; exact built_vce0) | exact built_vce0))))
              have q7 : (w6.alloc (.cells (rv [0, ((j : Int) + 1) % 512] 512 FF) 24)).heap[g]? = some (.cells (rv [0, (j : Int)] 512 FF) 24 (0, 0)) := by (repeat (first | assumption | (exact setRow_heap _ _ _ _ _ _ (by assumption)) | (refine heap_at _ _ _ ?_; (first | rfl | (simp; done) | (simp <;> omega) | omega); done) | refine heap_drew' _ _ _ ?_ | (apply heap_past; (case hn => (first | rfl | (simp; done) | (simp <;> omega) | omega)))))
              have q11 : (w6.alloc (.cells (rv [0, ((j : Int) + 1) % 512] 512 FF) 24)).heap[w6.heap.size]? = some (.cells (rv [0, ((j : Int) + 1) % 512] 512 FF) 24 (0, 0)) := by (repeat (first | assumption | (exact setRow_heap _ _ _ _ _ _ (by assumption)) | (refine heap_at _ _ _ ?_; (first | rfl | (simp; done) | (simp <;> omega) | omega); done) | refine heap_drew' _ _ _ ?_ | (apply heap_past; (case hn => (first | rfl | (simp; done) | (simp <;> omega) | omega)))))
              have hcell7 : (w6.alloc (.cells (rv [0, ((j : Int) + 1) % 512] 512 FF) 24)).cell? ⟨b, off + m, none⟩ = some (.int .i64 (Z m)) := (World.cell?_alloc_lt w6 _ _ hb6).trans hcell6
              have HU7 := Lib.hid (hUm6.alloc (.cells (rv [0, ((j : Int) + 1) % 512] 512 FF) 24))
              have hb7 : b < (w6.alloc (.cells (rv [0, ((j : Int) + 1) % 512] 512 FF) 24)).heap.size := by simp only [World.size_alloc]; omega
              generalize w6.alloc (.cells (rv [0, ((j : Int) + 1) % 512] 512 FF) 24) = W2 at *
              have KS := Lib.hid (show ∀ w', Up W2 w' → (Up W2 w' ∧ w'.cell? ⟨b, off + m, none⟩ = some (.int .i64 (Z m)) ∧ RowOK 514 w' w6.heap.size ∧ rowOf w' w6.heap.size = rv [0, ((j : Int) + 1) % 512] 512 FF) from fun w' h => ⟨h, (h.cell hb7).trans hcell7, RowOK.of ((h.heap (lt_of_block q11)).trans q11) (rv_size _ _ _), rowOf_eq ((h.heap (lt_of_block q11)).trans q11)⟩)
              obtain ⟨_, k1, k2, k3⟩ := KS.out W2 (Up.refl _)
              have Q7 := Lib.hid q7
              have Q11 := Lib.hid q11
              clear q6 q7 q11 hUm6 hU5 hU6 hcell4 hcell5 hcell6 hcell7 R4 R5
              go_region_held3 (fun w' => (Up W2 w' ∧ w'.cell? ⟨b, off + m, none⟩ = some (.int .i64 (Z m)) ∧ RowOK 514 w' w6.heap.size ∧ rowOf w' w6.heap.size = rv [0, ((j : Int) + 1) % 512] 512 FF)) (exact KS.out _ (by first | assumption | exact Up.refl _ | exact Up.drew (Up.refl _))) (first | (go_at_call 7; refine (CO.out _ (by first | exact Or.inl rfl | exact Or.inr rfl) _).mono ?_; rintro e w7 ⟨rfl, hB7⟩; have hP7 : Up W2 w7 := (by first | exact Up.trans (by assumption) hB7 | exact Up.trans (Up.drew (Up.refl W2)) hB7)))
              have hP8 := (‹Up W2 w7 ∧ _›).1
              have q8 : w7.heap[g]? = some (.cells (rv [0, (j : Int)] 512 FF) 24 (0, 0)) := (hP8.heap (lt_of_block Q7.out)).trans Q7.out
              have q12 : w7.heap[w6.heap.size]? = some (.cells (rv [0, ((j : Int) + 1) % 512] 512 FF) 24 (0, 0)) := (hP8.heap (lt_of_block Q11.out)).trans Q11.out
              have HRn := Lib.hid (show RW wc g 24 (rv [0, (((A + (m + 1)) % 512 : Nat) : Int)] 512 FF) (w7.setRow g (rv [0, ((j : Int) + 1) % 512] 512 FF)) from ⟨Up.setRow (HU7.out.trans hP8) hg _, by rw [setRow_heap _ _ _ _ _ _ q8, HJ.out]⟩)
              clear KS k1 k2 k3
              go_wp2_with (first | (apply load_is (ty := 24); (case ho => rfl); (case hgd => rfl); (case hx => rfl); (case hg => (repeat (first | assumption | (exact setRow_heap _ _ _ _ _ _ (by assumption)) | (refine heap_at _ _ _ ?_; (first | rfl | (simp; done) | (simp <;> omega) | omega); done) | refine heap_drew' _ _ _ ?_ | (apply heap_past; (case hn => (first | rfl | (simp; done) | (simp <;> omega) | omega)))))); (case hu => exact Try.underlying24); (case hd => rfl); (case hi => exact sz514 _ _ _)) | (apply store_is (ty := 24); (case ho => rfl); (case hgd => rfl); (case hx => rfl); (case hy => rfl); (case h1 => exact rv_one _ _ _); (case hw => (repeat (first | (refine setRow_at _ _ _ _ _ ?_; (first | rfl | (simp; done) | (simp <;> omega) | omega); done) | apply setRow_drew_is | (apply setRow_past_is; (case hn => (first | rfl | (simp; done) | (simp <;> omega) | omega))) | exact rfl))); (case hg => (repeat (first | assumption | (exact setRow_heap _ _ _ _ _ _ (by assumption)) | (refine heap_at _ _ _ ?_; (first | rfl | (simp; done) | (simp <;> omega) | omega); done) | refine heap_drew' _ _ _ ?_ | (apply heap_past; (case hn => (first | rfl | (simp; done) | (simp <;> omega) | omega)))))); (case hi => exact sz514 _ _ _); (case hold => simp [rv_size])) | (apply build_is (t := 24); (case ho => rfl); (case hg => rfl); (case hf => (first | (rw [Array.toList_map]; exact built_vce0) | exact built_vce0))))
              go_roundw
              case rel => exact ⟨m + 1, by omega, by go_num, HRn.out⟩
              case measure => simp [intOf]; omega
          · obtain rfl : m = n := by omega
            have hd : decide ((m : Int) < (m : Int)) = false := decide_eq_false (by omega)
            have q5 := hRm.row
            have HU5 := Lib.hid hRm.up
            have hb2 : BM.vBit 0 2 = 0 := by decide +kernel
            have hd0 : vDot 0 = 4 := by decide +kernel
            clear hR2 hRm
            go_wp2_with (first | (apply load_is (ty := 24); (case ho => rfl); (case hgd => rfl); (case hx => rfl); (case hg => (repeat (first | assumption | (exact setRow_heap _ _ _ _ _ _ (by assumption)) | (refine heap_at _ _ _ ?_; (first | rfl | (simp; done) | (simp <;> omega) | omega); done) | refine heap_drew' _ _ _ ?_ | (apply heap_past; (case hn => (first | rfl | (simp; done) | (simp <;> omega) | omega)))))); (case hu => exact Try.underlying24); (case hd => rfl); (case hi => exact sz514 _ _ _)) | (apply store_is (ty := 24); (case ho => rfl); (case hgd => rfl); (case hx => rfl); (case hy => rfl); (case h1 => exact rv_one _ _ _); (case hw => (repeat (first | (refine setRow_at _ _ _ _ _ ?_; (first | rfl | (simp; done) | (simp <;> omega) | omega); done) | apply setRow_drew_is | (apply setRow_past_is; (case hn => (first | rfl | (simp; done) | (simp <;> omega) | omega))) | exact rfl))); (case hg => (repeat (first | assumption | (exact setRow_heap _ _ _ _ _ _ (by assumption)) | (refine heap_at _ _ _ ?_; (first | rfl | (simp; done) | (simp <;> omega) | omega); done) | refine heap_drew' _ _ _ ?_ | (apply heap_past; (case hn => (first | rfl | (simp; done) | (simp <;> omega) | omega)))))); (case hi => exact sz514 _ _ _); (case hold => simp [rv_size])) | (apply build_is (t := 24); (case ho => rfl); (case hg => rfl); (case hf => (first | (rw [Array.toList_map]; exact built_vce0) | exact built_vce0))))
            refine (lines_up _ _ _ _).mono ?_; rintro e w5 ⟨rfl, hU6⟩
            have q6 := (hU6.heap (lt_of_block q5)).trans q5
            clear q5
            go_wp2_with (first | (apply load_is (ty := 24); (case ho => rfl); (case hgd => rfl); (case hx => rfl); (case hg => (repeat (first | assumption | (exact setRow_heap _ _ _ _ _ _ (by assumption)) | (refine heap_at _ _ _ ?_; (first | rfl | (simp; done) | (simp <;> omega) | omega); done) | refine heap_drew' _ _ _ ?_ | (apply heap_past; (case hn => (first | rfl | (simp; done) | (simp <;> omega) | omega)))))); (case hu => exact Try.underlying24); (case hd => rfl); (case hi => exact sz514 _ _ _)) | (apply store_is (ty := 24); (case ho => rfl); (case hgd => rfl); (case hx => rfl); (case hy => rfl); (case h1 => exact rv_one _ _ _); (case hw => (repeat (first | (refine setRow_at _ _ _ _ _ ?_; (first | rfl | (simp; done) | (simp <;> omega) | omega); done) | apply setRow_drew_is | (apply setRow_past_is; (case hn => (first | rfl | (simp; done) | (simp <;> omega) | omega))) | exact rfl))); (case hg => (repeat (first | assumption | (exact setRow_heap _ _ _ _ _ _ (by assumption)) | (refine heap_at _ _ _ ?_; (first | rfl | (simp; done) | (simp <;> omega) | omega); done) | refine heap_drew' _ _ _ ?_ | (apply heap_past; (case hn => (first | rfl | (simp; done) | (simp <;> omega) | omega)))))); (case hi => exact sz514 _ _ _); (case hold => simp [rv_size])) | (apply build_is (t := 24); (case ho => rfl); (case hg => rfl); (case hf => (first | (rw [Array.toList_map]; exact built_vce0) | exact built_vce0))))
            refine (dot_up _ _ _ _).mono ?_; rintro e w6 ⟨rfl, hU7⟩
            go_wp2_with (first | (apply load_is (ty := 24); (case ho => rfl); (case hgd => rfl); (case hx => rfl); (case hg => (repeat (first | assumption | (exact setRow_heap _ _ _ _ _ _ (by assumption)) | (refine heap_at _ _ _ ?_; (first | rfl | (simp; done) | (simp <;> omega) | omega); done) | refine heap_drew' _ _ _ ?_ | (apply heap_past; (case hn => (first | rfl | (simp; done) | (simp <;> omega) | omega)))))); (case hu => exact Try.underlying24); (case hd => rfl); (case hi => exact sz514 _ _ _)) | (apply store_is (ty := 24); (case ho => rfl); (case hgd => rfl); (case hx => rfl); (case hy => rfl); (case h1 => exact rv_one _ _ _); (case hw => (repeat (first | (refine setRow_at _ _ _ _ _ ?_; (first | rfl | (simp; done) | (simp <;> omega) | omega); done) | apply setRow_drew_is | (apply setRow_past_is; (case hn => (first | rfl | (simp; done) | (simp <;> omega) | omega))) | exact rfl))); (case hg => (repeat (first | assumption | (exact setRow_heap _ _ _ _ _ _ (by assumption)) | (refine heap_at _ _ _ ?_; (first | rfl | (simp; done) | (simp <;> omega) | omega); done) | refine heap_drew' _ _ _ ?_ | (apply heap_past; (case hn => (first | rfl | (simp; done) | (simp <;> omega) | omega)))))); (case hi => exact sz514 _ _ _); (case hold => simp [rv_size])) | (apply build_is (t := 24); (case ho => rfl); (case hg => rfl); (case hf => (first | (rw [Array.toList_map]; exact built_vce0) | exact built_vce0))))
            go_ret
            exact ⟨rfl, (HU5.out.trans hU6).trans hU7⟩
end Go.Proofs.Ytandoejbimihoaa
