/- Contracts of the functions of the packages bits and phosphorref01: what each returns, and that the world stays as it is. -/
import Derived.Test.YtodoacilhlcmjaaRows
import Derived.WalkKit
import Derived.WalkSpells
import Derived.WalkLawsBesides
import Derived.Below
import Derived.Lib.Hide
import Derived.Test.YtodoacilhlcmjaaBM
namespace Go.Proofs.Ytodoacilhlcmjaa
open Go.RowKit

theorem ret_int {k : IntKind} {a b : Int} (h : a = b) : Ending.returned (.int k a) = .returned (.int k b) := by rw [h]
theorem ret_bool {a b : Bool} (h : a = b) : Ending.returned (.bool a) = .returned (.bool b) := by rw [h]
theorem i64_num {a b : Int} (h : a = b) : Value.int .i64 a = .int .i64 b := by rw [h]
theorem i8_any (n : Int) : wrap64 (IntKind.i8.wrap n) = (n + 128) % 256 - 128 := by
  simp only [IntKind.wrap, IntKind.bits, IntKind.signed, wrap64]; simp; split <;> omega
/-- Nothing that was there has been turned. -/
def Up (w w' : World) : Prop := Below w.heap.size w w'
theorem Up.refl (w : World) : Up w w := Below.refl _ _
theorem Up.trans {a b c : World} (h : Up a b) (k : Up b c) : Up a c := Below.trans h (Below.mono k (Below.size h))
theorem Up.alloc {a w : World} (h : Up a w) (o : Obj) : Up a (w.alloc o) := Below.alloc h (Below.size h) o
theorem Up.drew {a w : World} (h : Up a w) : Up a w.drew := Below.drew h
theorem Up.drewN {a w : World} (h : Up a w) (n : Nat) : Up a (w.drewN n) := Below.trans h ⟨rfl, rfl, rfl, Nat.le_refl _, fun _ _ => rfl⟩
theorem Up.setCell {a w : World} (h : Up a w) {p : Addr} (hp : a.heap.size ≤ p.block) (v : Value) : Up a (w.setCell p v) := Below.setCell h hp v
theorem Up.size {a w : World} (h : Up a w) : a.heap.size ≤ w.heap.size := Below.size h
theorem Up.cell {a w : World} (h : Up a w) {b o : Nat} (hb : b < a.heap.size) : w.cell? ⟨b, o, none⟩ = a.cell? ⟨b, o, none⟩ := Below.cell h (p := ⟨b, o, none⟩) hb
theorem Up.frozen {a w : World} (h : Up a w) {b o : Nat} (hb : b < a.heap.size) : w.frozen? ⟨b, o, none⟩ = a.frozen? ⟨b, o, none⟩ := Below.frozen h (p := ⟨b, o, none⟩) hb
theorem Up.heap {a w : World} (h : Up a w) {b : Nat} (hb : b < a.heap.size) : w.heap[b]? = a.heap[b]? := Below.block h b hb
theorem byte_any (n : Int) (w : World) : Calls Try.prog 11 #[.int .i64 n] w fun e w' => e = .returned (.int .i64 (n % 256)) ∧ w = w' := by
  go_enter Try.func11, Try.ntmps11
  go_wp2
  go_ret
  exact ⟨ret_int (BM.and255 n), rfl⟩
theorem word_any (n : Int) (w : World) : Calls Try.prog 12 #[.int .i64 n] w fun e w' => e = .returned (.int .i64 (n % 65536)) ∧ w = w' := by
  go_enter Try.func12, Try.ntmps12
  go_wp2
  go_ret
  exact ⟨ret_int (BM.and65535 n), rfl⟩
theorem split_any (n : Int) (w : World) : Calls Try.prog 10 #[.int .i64 n] w fun e w' => e = .returned (.tuple #[.int .i64 (n % 256), .int .i64 (n / 256 % 256)]) ∧ w = w' := by
  go_enter Try.func10, Try.ntmps10
  go_wp2_with (go_at_call 11; refine (byte_any _ _).mono ?_; rintro e w' ⟨rfl, rfl⟩)
  go_ret2
  exact ⟨rfl, rfl⟩
theorem signed_any (n : Int) (w : World) : Calls Try.prog 17 #[.int .i64 n] w fun e w' => e = .returned (.int .i64 ((n + 128) % 256 - 128)) ∧ w = w' := by
  go_enter Try.func17, Try.ntmps17
  go_wp2
  go_ret
  exact ⟨ret_int (i8_any n), rfl⟩
theorem bit_any (n k : Int) (w : World) : Calls Try.prog 20 #[.int .i64 n, .int .i64 k] w fun e w' => e = .returned (.int .i64 (BM.vBit n k)) ∧ w = w' := by
  by_cases h0 : k < 0
  · have e : BM.vBit n k = 0 := by unfold BM.vBit; rw [if_neg (by omega)]
    have H := Lib.hid e
    clear e
    go_enter Try.func20, Try.ntmps20
    go_wp2
    go_ret
    exact ⟨ret_int H.out.symm, rfl⟩
  · by_cases h1 : 15 < k
    · have e : BM.vBit n k = 0 := by unfold BM.vBit; rw [if_neg (by omega)]
      have H := Lib.hid e
      clear e
      go_enter Try.func20, Try.ntmps20
      go_wp2
      go_ret
      exact ⟨ret_int H.out.symm, rfl⟩
    · have e : BM.vBit n k = n / 2 ^ k.toNat % 2 := by unfold BM.vBit; rw [if_pos (by omega)]
      have H := Lib.hid e
      clear e
      have h3 : 0 ≤ k := by omega
      have h4 : k ≤ 64 := by omega
      go_enter Try.func20, Try.ntmps20
      go_wp2
      go_ret
      exact ⟨ret_int ((BM.and1 _).trans H.out.symm), rfl⟩
theorem put_any (n k : Int) (on : Bool) (hn : -9223372036854775808 ≤ n ∧ n ≤ 9223372036854775807) (w : World) :
    Calls Try.prog 19 #[.int .i64 n, .int .i64 k, .bool on] w fun e w' => e = .returned (.int .i64 (BM.vPut n k on)) ∧ w = w' := by
  obtain ⟨hn1, hn2⟩ := hn
  by_cases h0 : k < 0
  · have e : BM.vPut n k on = n % 65536 := by unfold BM.vPut; rw [if_neg (by omega)]
    have H := Lib.hid e
    clear e
    go_enter Try.func19, Try.ntmps19
    go_wp2_with (go_at_call 12; refine (word_any _ _).mono ?_; rintro e w' ⟨rfl, rfl⟩)
    go_ret
    exact ⟨ret_int H.out.symm, rfl⟩
  · by_cases h1 : 15 < k
    · have e : BM.vPut n k on = n % 65536 := by unfold BM.vPut; rw [if_neg (by omega)]
      have H := Lib.hid e
      clear e
      go_enter Try.func19, Try.ntmps19
      go_wp2_with (go_at_call 12; refine (word_any _ _).mono ?_; rintro e w' ⟨rfl, rfl⟩)
      go_ret
      exact ⟨ret_int H.out.symm, rfl⟩
    · cases on
      · have H := Lib.hid (BM.put_off n k ⟨hn1, hn2⟩ (by omega))
        have h3 : 0 ≤ k := by omega
        have h4 : k ≤ 64 := by omega
        go_enter Try.func19, Try.ntmps19
        go_wp2_with (go_at_call 12; refine (word_any _ _).mono ?_; rintro e w' ⟨rfl, rfl⟩)
        go_ret
        exact ⟨ret_int H.out, rfl⟩
      · have H := Lib.hid (BM.put_on n k ⟨hn1, hn2⟩ (by omega))
        have h3 : 0 ≤ k := by omega
        have h4 : k ≤ 64 := by omega
        go_enter Try.func19, Try.ntmps19
        go_wp2_with (go_at_call 12; refine (word_any _ _).mono ?_; rintro e w' ⟨rfl, rfl⟩)
        go_ret
        exact ⟨ret_int H.out, rfl⟩
theorem together_two (b : Nat) (x y : Int) (w : World) (h0 : w.cell? ⟨b, 0, none⟩ = some (.int .i64 x)) (h1 : w.cell? ⟨b, 1, none⟩ = some (.int .i64 y)) :
    Calls Try.prog 27 #[.slice (some ⟨b, 0, none⟩) 2 2] w fun e w' => e = .returned (.int .i64 (x % 256 + 256 * (y % 256))) ∧ w = w' := by
  have hx0 : 0 ≤ x % 256 := by omega
  have hx1 : x % 256 ≤ 255 := by omega
  have hy0 : 0 ≤ y % 256 := by omega
  have hy1 : y % 256 ≤ 255 := by omega
  have J := Lib.hid (BM.or_join 8 (y % 256 * 256) (x % 256) (by omega) (by omega) (by omega) (by omega) (by omega) (by omega))
  have Z := Lib.hid (BM.zero_or (x % 256) (by omega))
  go_enter Try.func27, Try.ntmps27
  go_wp2
  go_loop [3, 8] (fun n i => (i = .int .i64 0 ∧ n = .int .i64 0) ∨ (i = .int .i64 1 ∧ n = .int .i64 (x % 256)) ∨ (i = .int .i64 2 ∧ n = .int .i64 (x % 256 + 256 * (y % 256)))) (fun _ i => 2 - (intOf i).toNat)
  case atStart => exact .inl ⟨rfl, rfl⟩
  case round =>
    rcases hrel with ⟨rfl, rfl⟩ | ⟨rfl, rfl⟩ | ⟨rfl, rfl⟩
    · go_wp2_with (go_at_call 11; refine (byte_any _ _).mono ?_; rintro e w' ⟨rfl, rfl⟩)
      go_round
      case rel => exact .inr (.inl ⟨rfl, i64_num Z.out⟩)
      case measure => simp [intOf]
    · go_wp2_with (go_at_call 11; refine (byte_any _ _).mono ?_; rintro e w' ⟨rfl, rfl⟩)
      go_round
      case rel => exact .inr (.inr ⟨rfl, i64_num ((BM.or_comm _ _).trans (J.out.trans (by omega)))⟩)
      case measure => simp [intOf]
    · go_wp2
      go_ret
      exact ⟨rfl, rfl⟩
theorem join_any (x y : Int) (w : World) :
    Calls Try.prog 13 #[.int .i64 x, .int .i64 y] w fun e w' => e = .returned (.int .i64 (x % 256 + 256 * (y % 256))) ∧ Up w w' := by
  go_enter Try.func13, Try.ntmps13
  go_wp2_with (go_at_call 27; refine (together_two _ x y _ (by simp) (by simp)).mono ?_; rintro e w' ⟨rfl, rfl⟩)
  go_ret
  exact ⟨rfl, (Up.refl _).alloc _⟩
theorem reverse_any (n : Int) (w : World) : Calls Try.prog 24 #[.int .i64 n] w fun e w' => e = .returned (.int .i64 (BM.vRev n)) ∧ w = w' := by
  go_enter Try.func24, Try.ntmps24
  go_wp2
  go_loop [3, 5] (fun o i => ∃ k : Nat, k ≤ 8 ∧ i = .int .i64 k ∧ o = .int .i64 (BM.revTo n k)) (fun _ i => 8 - (intOf i).toNat)
  case atStart => exact ⟨0, by omega, rfl, rfl⟩
  case round =>
    obtain ⟨k, hk, rfl, rfl⟩ := hrel
    by_cases hlt : k < 8
    · have H := Lib.hid (BM.revTo_succ n k hlt)
      have h3 : (0 : Int) ≤ 7 - (k : Int) := by omega
      have h4 : 7 - (k : Int) ≤ 64 := by omega
      go_wp2_with (go_at_call 20; refine (bit_any _ _ _).mono ?_; rintro e w' ⟨rfl, rfl⟩)
      go_round
      case rel => exact ⟨k + 1, by omega, by go_num, i64_num H.out⟩
      case measure => simp [intOf]; omega
    · obtain rfl : k = 8 := by omega
      go_wp2
      go_ret
      exact ⟨ret_int (BM.revTo_eight n), rfl⟩
theorem ones_any (n : Int) (w : World) : Calls Try.prog 21 #[.int .i64 n] w fun e w' => e = .returned (.int .i64 (BM.cnt 16 n)) ∧ w = w' := by
  go_enter Try.func21, Try.ntmps21
  go_wp2_with (go_at_call 12; refine (word_any _ _).mono ?_; rintro e w' ⟨rfl, rfl⟩)
  go_loop [3, 4] (fun o l => ∃ a c : Int, 0 ≤ a ∧ a ≤ 16 ∧ 0 ≤ c ∧ c ≤ 65535 ∧ a + BM.cnt 16 c = BM.cnt 16 n ∧ o = .int .i64 a ∧ l = .int .i64 c) (fun _ l => (intOf l).toNat)
  case atStart => exact ⟨0, n % 65536, by omega, by omega, by omega, by omega, by rw [BM.cnt_word]; omega, rfl, rfl⟩
  case round =>
    obtain ⟨a, c, ha0, ha1, hc0, hc1, hac, rfl, rfl⟩ := hrel
    have S := Lib.hid hac
    clear hac
    by_cases hz : c = 0
    · subst hz
      have e : a = BM.cnt 16 n := by have := S.out; rw [BM.cnt_zero] at this; omega
      have E := Lib.hid e
      clear e
      go_wp2
      go_ret
      exact ⟨ret_int E.out, rfl⟩
    · have hd := BM.down c (by omega) hc1
      have hb := BM.cnt_le 16 (bits .and .i64 c (c - 1))
      have hn := BM.cnt_le 16 n
      have hs := S.out
      have hc2 : (c != 0) = true := by rw [bne_iff_ne]; exact hz
      have D := Lib.hid hd
      have h16 : a + 1 ≤ 16 := by omega
      clear hd hb hn hs
      go_wp2
      go_round
      case rel => exact ⟨a + 1, _, by omega, h16, D.out.1, by have := D.out.2.1; omega, by have := D.out.2.2; have := S.out; omega, rfl, rfl⟩
      case measure => have := D.out; simp [intOf]; omega
theorem mod_any (n m : Int) (w : World) (h0 : 1 ≤ m) (h1 : m ≤ 4611686018427387904) (hn : -9223372036854775808 ≤ n ∧ n ≤ 9223372036854775807) :
    Calls Try.prog 28 #[.int .i64 n, .int .i64 m] w fun e w' => e = .returned (.int .i64 (n % m)) ∧ w = w' := by
  obtain ⟨hn1, hn2⟩ := hn
  have hm0 : (m == 0) = false := by rw [beq_eq_false_iff_ne]; omega
  have hm1 : (m != 0) = true := by rw [bne_iff_ne]; omega
  have ht := BM.tmod_cases n m (by omega)
  by_cases h : n.tmod m < 0
  · have e : n.tmod m + m = n % m := by omega
    have hb : -m < n.tmod m := ht.1
    have E := Lib.hid e
    clear e ht
    go_enter Try.func28, Try.ntmps28
    go_wp2
    go_ret
    exact ⟨ret_int E.out, rfl⟩
  · have e : n.tmod m = n % m := by omega
    have E := Lib.hid e
    clear e ht
    go_enter Try.func28, Try.ntmps28
    go_wp2
    go_ret
    exact ⟨ret_int E.out, rfl⟩
theorem rbyte_any (n : Int) (w : World) (hn : -9223372036854775808 ≤ n ∧ n ≤ 9223372036854775807) : Calls Try.prog 14 #[.int .i64 n] w fun e w' => e = .returned (.int .i64 (n % 256)) ∧ w = w' := by
  go_enter Try.func14, Try.ntmps14
  go_wp2_with (go_at_call 28; refine (mod_any _ _ _ (by omega) (by omega) hn).mono ?_; rintro e w' ⟨rfl, rfl⟩)
  go_ret
  exact ⟨rfl, rfl⟩
theorem rword_any (n : Int) (w : World) (hn : -9223372036854775808 ≤ n ∧ n ≤ 9223372036854775807) : Calls Try.prog 15 #[.int .i64 n] w fun e w' => e = .returned (.int .i64 (n % 65536)) ∧ w = w' := by
  go_enter Try.func15, Try.ntmps15
  go_wp2_with (go_at_call 28; refine (mod_any _ _ _ (by omega) (by omega) hn).mono ?_; rintro e w' ⟨rfl, rfl⟩)
  go_ret
  exact ⟨rfl, rfl⟩
theorem rjoin_any (x y : Int) (w : World) (hx : -9223372036854775808 ≤ x ∧ x ≤ 9223372036854775807) (hy : -9223372036854775808 ≤ y ∧ y ≤ 9223372036854775807) :
    Calls Try.prog 16 #[.int .i64 x, .int .i64 y] w fun e w' => e = .returned (.int .i64 (x % 256 + 256 * (y % 256))) ∧ w = w' := by
  have hx0 : 0 ≤ x % 256 := by omega
  have hx1 : x % 256 ≤ 255 := by omega
  have hy0 : 0 ≤ y % 256 := by omega
  have hy1 : y % 256 ≤ 255 := by omega
  go_enter Try.func16, Try.ntmps16
  go_wp2_with (go_at_call 14; refine (rbyte_any _ _ (by assumption)).mono ?_; rintro e w' ⟨rfl, rfl⟩)
  go_ret
  exact ⟨rfl, rfl⟩
theorem rsigned_any (n : Int) (w : World) (hn : -9223372036854775808 ≤ n ∧ n ≤ 9223372036854775807) : Calls Try.prog 18 #[.int .i64 n] w fun e w' => e = .returned (.int .i64 ((n + 128) % 256 - 128)) ∧ w = w' := by
  have h0 : 0 ≤ n % 256 := by omega
  have h1 : n % 256 ≤ 255 := by omega
  by_cases h : 128 ≤ n % 256
  · go_enter Try.func18, Try.ntmps18
    go_wp2_with (go_at_call 14; refine (rbyte_any _ _ hn).mono ?_; rintro e w' ⟨rfl, rfl⟩)
    go_ret
    exact ⟨ret_int (by omega), rfl⟩
  · go_enter Try.func18, Try.ntmps18
    go_wp2_with (go_at_call 14; refine (rbyte_any _ _ hn).mono ?_; rintro e w' ⟨rfl, rfl⟩)
    go_ret
    exact ⟨ret_int (by omega), rfl⟩
theorem power_any (k : Nat) (w : World) (hk : k ≤ 40) : Calls Try.prog 29 #[.int .i64 k] w fun e w' => e = .returned (.int .i64 (2 ^ k)) ∧ w = w' := by
  go_enter Try.func29, Try.ntmps29
  go_wp2
  go_loop [3, 4] (fun n i => ∃ j : Nat, j ≤ k ∧ i = .int .i64 j ∧ n = .int .i64 (2 ^ j)) (fun _ i => k - (intOf i).toNat)
  case atStart => exact ⟨0, by omega, rfl, rfl⟩
  case round =>
    obtain ⟨j, hj, rfl, rfl⟩ := hrel
    by_cases hlt : j < k
    · have hp := BM.pow_lt j (by omega)
      have hp0 : (1 : Int) ≤ 2 ^ j := hp.1
      have hp1 : (2 : Int) ^ j ≤ 1099511627776 := hp.2
      clear hp
      have E := Lib.hid (Int.pow_succ 2 j)
      go_wp2
      go_round
      case rel => exact ⟨j + 1, by omega, by go_num, i64_num E.out.symm⟩
      case measure => simp [intOf]; omega
    · obtain rfl : j = k := by omega
      go_wp2
      go_ret
      exact ⟨rfl, rfl⟩
theorem rbit_any (n k : Int) (w : World) (hn : -9223372036854775808 ≤ n ∧ n ≤ 9223372036854775807) : Calls Try.prog 22 #[.int .i64 n, .int .i64 k] w fun e w' => e = .returned (.int .i64 (BM.vBit n k)) ∧ w = w' := by
  by_cases h0 : k < 0
  · have e : BM.vBit n k = 0 := by unfold BM.vBit; rw [if_neg (by omega)]
    have H := Lib.hid e
    clear e
    go_enter Try.func22, Try.ntmps22
    go_wp2
    go_ret
    exact ⟨ret_int H.out.symm, rfl⟩
  · by_cases h1 : 15 < k
    · have e : BM.vBit n k = 0 := by unfold BM.vBit; rw [if_neg (by omega)]
      have H := Lib.hid e
      clear e
      go_enter Try.func22, Try.ntmps22
      go_wp2
      go_ret
      exact ⟨ret_int H.out.symm, rfl⟩
    · obtain ⟨j, rfl⟩ := Int.eq_ofNat_of_zero_le (show 0 ≤ k by omega)
      have hp := BM.pow_lt j (by omega)
      have hp0 : (1 : Int) ≤ 2 ^ j := hp.1
      have hp1 : (2 : Int) ^ j ≤ 1099511627776 := hp.2
      have hz : ((2 : Int) ^ j == 0) = false := by rw [beq_eq_false_iff_ne]; omega
      have hz2 : ((2 : Int) ^ j != 0) = true := by rw [bne_iff_ne]; omega
      clear hp
      have hw0 : 0 ≤ n % 65536 := by omega
      have hw1 : n % 65536 ≤ 65535 := by omega
      have hq : 0 ≤ n % 65536 / 2 ^ j := Int.ediv_nonneg hw0 (by omega)
      have H := Lib.hid (BM.bit_word n j (by omega))
      go_enter Try.func22, Try.ntmps22
      go_wp2_with (first | (go_at_call 15; refine (rword_any _ _ hn).mono ?_; rintro e w' ⟨rfl, rfl⟩) | (go_at_call 29; refine (power_any _ _ (by omega)).mono ?_; rintro e w' ⟨rfl, rfl⟩))
      go_ret
      exact ⟨ret_int H.out, rfl⟩
theorem rput_any (n k : Int) (on : Bool) (w : World) (hn : -9223372036854775808 ≤ n ∧ n ≤ 9223372036854775807) :
    Calls Try.prog 23 #[.int .i64 n, .int .i64 k, .bool on] w fun e w' => e = .returned (.int .i64 (BM.vPut n k on)) ∧ w = w' := by
  by_cases h0 : k < 0
  · have e : BM.vPut n k on = n % 65536 := by unfold BM.vPut; rw [if_neg (by omega)]
    have H := Lib.hid e
    clear e
    go_enter Try.func23, Try.ntmps23
    go_wp2_with (go_at_call 15; refine (rword_any _ _ hn).mono ?_; rintro e w' ⟨rfl, rfl⟩)
    go_ret
    exact ⟨ret_int H.out.symm, rfl⟩
  · by_cases h1 : 15 < k
    · have e : BM.vPut n k on = n % 65536 := by unfold BM.vPut; rw [if_neg (by omega)]
      have H := Lib.hid e
      clear e
      go_enter Try.func23, Try.ntmps23
      go_wp2_with (go_at_call 15; refine (rword_any _ _ hn).mono ?_; rintro e w' ⟨rfl, rfl⟩)
      go_ret
      exact ⟨ret_int H.out.symm, rfl⟩
    · obtain ⟨j, rfl⟩ := Int.eq_ofNat_of_zero_le (show 0 ≤ k by omega)
      have hp := BM.pow_lt15 j (by omega)
      have hp0 : (1 : Int) ≤ 2 ^ j := hp.1
      have hp1 : (2 : Int) ^ j ≤ 32768 := hp.2
      clear hp
      have hw0 : 0 ≤ n % 65536 := by omega
      have hw1 : n % 65536 ≤ 65535 := by omega
      have hv := BM.vBit_rng n j
      have hb0 : 0 ≤ BM.vBit n j * 2 ^ j := Int.mul_nonneg hv.1 (by omega)
      have hb1 : BM.vBit n j * 2 ^ j ≤ 32768 := by rcases hv.2 with h | h <;> rw [h] <;> omega
      clear hv
      cases on
      · have e : n % 65536 - BM.vBit n j * 2 ^ j = BM.vPut n j false := by unfold BM.vPut; rw [if_pos (by omega), Int.toNat_natCast]; simp
        have H := Lib.hid e
        clear e
        go_enter Try.func23, Try.ntmps23
        go_wp2_with (first | (go_at_call 15; refine (rword_any _ _ hn).mono ?_; rintro e w' ⟨rfl, rfl⟩) | (go_at_call 22; refine (rbit_any _ _ _ hn).mono ?_; rintro e w' ⟨rfl, rfl⟩) | (go_at_call 29; refine (power_any _ _ (by omega)).mono ?_; rintro e w' ⟨rfl, rfl⟩))
        go_ret
        exact ⟨ret_int H.out, rfl⟩
      · have e : n % 65536 - BM.vBit n j * 2 ^ j + 2 ^ j = BM.vPut n j true := by unfold BM.vPut; rw [if_pos (by omega), Int.toNat_natCast]; simp
        have H := Lib.hid e
        clear e
        go_enter Try.func23, Try.ntmps23
        go_wp2_with (first | (go_at_call 15; refine (rword_any _ _ hn).mono ?_; rintro e w' ⟨rfl, rfl⟩) | (go_at_call 22; refine (rbit_any _ _ _ hn).mono ?_; rintro e w' ⟨rfl, rfl⟩) | (go_at_call 29; refine (power_any _ _ (by omega)).mono ?_; rintro e w' ⟨rfl, rfl⟩))
        go_ret
        exact ⟨ret_int H.out, rfl⟩
theorem rreverse_any (n : Int) (w : World) (hn : -9223372036854775808 ≤ n ∧ n ≤ 9223372036854775807) : Calls Try.prog 25 #[.int .i64 n] w fun e w' => e = .returned (.int .i64 (BM.vRev n)) ∧ w = w' := by
  go_enter Try.func25, Try.ntmps25
  go_wp2
  go_loop [3, 4] (fun o i => ∃ k : Nat, k ≤ 8 ∧ i = .int .i64 k ∧ o = .int .i64 (BM.rrevTo n k)) (fun _ i => 8 - (intOf i).toNat)
  case atStart => exact ⟨0, by omega, rfl, rfl⟩
  case round =>
    obtain ⟨k, hk, rfl, rfl⟩ := hrel
    by_cases hlt : k < 8
    · have hr := BM.rrevTo_rng n k hk
      have hr0 : 0 ≤ BM.rrevTo n k := hr.1
      have hr1 : BM.rrevTo n k ≤ 255 := hr.2
      have hv := BM.vBit_rng n k
      have hv0 : 0 ≤ BM.vBit n k := hv.1
      have hv1 : BM.vBit n k ≤ 1 := by rcases hv.2 with h | h <;> rw [h] <;> omega
      clear hr hv
      go_wp2_with (go_at_call 22; refine (rbit_any _ _ _ hn).mono ?_; rintro e w' ⟨rfl, rfl⟩)
      go_round
      case rel => exact ⟨k + 1, by omega, by go_num, rfl⟩
      case measure => simp [intOf]; omega
    · obtain rfl : k = 8 := by omega
      go_wp2
      go_ret
      exact ⟨ret_int (BM.rrevTo_eight n), rfl⟩
theorem rones_any (n : Int) (w : World) (hn : -9223372036854775808 ≤ n ∧ n ≤ 9223372036854775807) : Calls Try.prog 26 #[.int .i64 n] w fun e w' => e = .returned (.int .i64 (BM.cnt 16 n)) ∧ w = w' := by
  go_enter Try.func26, Try.ntmps26
  go_wp2
  go_loop [3, 4] (fun o i => ∃ k : Nat, k ≤ 16 ∧ i = .int .i64 k ∧ o = .int .i64 (BM.cnt k n)) (fun _ i => 16 - (intOf i).toNat)
  case atStart => exact ⟨0, by omega, rfl, rfl⟩
  case round =>
    obtain ⟨k, hk, rfl, rfl⟩ := hrel
    by_cases hlt : k < 16
    · have hr := BM.cnt_le k n
      have hr0 : 0 ≤ BM.cnt k n := hr.1
      have hr1 : BM.cnt k n ≤ 16 := by omega
      have hv := BM.vBit_rng n k
      have hv0 : 0 ≤ BM.vBit n k := hv.1
      have hv1 : BM.vBit n k ≤ 1 := by rcases hv.2 with h | h <;> rw [h] <;> omega
      have H := Lib.hid (BM.cnt_succ k n (by omega))
      clear hr hv
      go_wp2_with (go_at_call 22; refine (rbit_any _ _ _ hn).mono ?_; rintro e w' ⟨rfl, rfl⟩)
      go_round
      case rel => exact ⟨k + 1, by omega, by go_num, i64_num H.out⟩
      case measure => simp [intOf]; omega
    · obtain rfl : k = 16 := by omega
      go_wp2
      go_ret
      exact ⟨rfl, rfl⟩
end Go.Proofs.Ytodoacilhlcmjaa
