/- Contracts of the functions of the packages bits and phosphorref01: what each returns, and that the world stays as it is. -/
import Derived.Test.YteepfbcialekeaaGreatDoorRows
import Derived.WalkKit
import Derived.WalkSpells
import Derived.WalkLawsBesides
import Derived.Below
import Derived.Lib.Hide
import Derived.Test.YteepfbcialekeaaGreatDoorBM
namespace Go.Proofs.YteepfbcialekeaaGreatDoor
open Go.RowKit

theorem ret_int {k : IntKind} {a b : Int} (h : a = b) : Ending.returned (.int k a) = .returned (.int k b) := by rw [h]
theorem ret_bool {a b : Bool} (h : a = b) : Ending.returned (.bool a) = .returned (.bool b) := by rw [h]
theorem i64_num {a b : Int} (h : a = b) : Value.int .i64 a = .int .i64 b := by rw [h]
theorem i8_any (n : Int) : wrap64 (IntKind.i8.wrap n) = (n + 128) % 256 - 128 := by
  simp only [IntKind.wrap, IntKind.bits, IntKind.signed, wrap64]; simp; split <;> omega
/-- Nothing that was there has been turned. -/
def Up (w w' : World) : Prop := Below w.heap.size w w'
@[simp] theorem Up.refl (w : World) : Up w w := Below.refl _ _
theorem Up.trans {a b c : World} (h : Up a b) (k : Up b c) : Up a c := Below.trans h (Below.mono k (Below.size h))
@[simp] theorem Up.alloc {a w : World} (h : Up a w) (o : Obj) : Up a (w.alloc o) := Below.alloc h (Below.size h) o
@[simp] theorem Up.drew {a w : World} (h : Up a w) : Up a w.drew := Below.drew h
@[simp] theorem Up.drewN {a w : World} (h : Up a w) (n : Nat) : Up a (w.drewN n) := Below.trans h ⟨rfl, rfl, rfl, Nat.le_refl _, fun _ _ => rfl⟩
theorem Up.setCell {a w : World} (h : Up a w) {p : Addr} (hp : a.heap.size ≤ p.block) (v : Value) : Up a (w.setCell p v) := Below.setCell h hp v
theorem Up.size {a w : World} (h : Up a w) : a.heap.size ≤ w.heap.size := Below.size h
theorem Up.cell {a w : World} (h : Up a w) {b o : Nat} (hb : b < a.heap.size) : w.cell? ⟨b, o, none⟩ = a.cell? ⟨b, o, none⟩ := Below.cell h (p := ⟨b, o, none⟩) hb
theorem Up.frozen {a w : World} (h : Up a w) {b o : Nat} (hb : b < a.heap.size) : w.frozen? ⟨b, o, none⟩ = a.frozen? ⟨b, o, none⟩ := Below.frozen h (p := ⟨b, o, none⟩) hb
theorem Up.facts {a w : World} (h : Up a w) : (∀ b o, b < a.heap.size → w.cell? ⟨b, o, none⟩ = a.cell? ⟨b, o, none⟩) ∧ (∀ b o, b < a.heap.size → w.frozen? ⟨b, o, none⟩ = a.frozen? ⟨b, o, none⟩) ∧ a.heap.size ≤ w.heap.size :=
  ⟨fun _ _ hb => h.cell hb, fun _ _ hb => h.frozen hb, h.size⟩
theorem Up.heap {a w : World} (h : Up a w) {b : Nat} (hb : b < a.heap.size) : w.heap[b]? = a.heap[b]? := Below.block h b hb
theorem byte_any (n : Int) (w : World) : Calls Tryz.prog 30 #[.int .i64 n] w fun e w' => e = .returned (.int .i64 (n % 256)) ∧ w = w' := by
  go_enter Tryz.func30, Tryz.ntmps30
  go_wp2
  go_ret
  exact ⟨ret_int (BM.and255 n), rfl⟩
theorem word_any (n : Int) (w : World) : Calls Tryz.prog 21 #[.int .i64 n] w fun e w' => e = .returned (.int .i64 (n % 65536)) ∧ w = w' := by
  go_enter Tryz.func21, Tryz.ntmps21
  go_wp2
  go_ret
  exact ⟨ret_int (BM.and65535 n), rfl⟩
theorem split_any (n : Int) (w : World) : Calls Tryz.prog 70 #[.int .i64 n] w fun e w' => e = .returned (.tuple #[.int .i64 (n % 256), .int .i64 (n / 256 % 256)]) ∧ w = w' := by
  go_enter Tryz.func70, Tryz.ntmps70
  go_wp2_with (go_at_call 30; refine (byte_any _ _).mono ?_; rintro e w' ⟨rfl, rfl⟩)
  go_ret2
  exact ⟨rfl, rfl⟩
theorem bit_any (n k : Int) (w : World) : Calls Tryz.prog 64 #[.int .i64 n, .int .i64 k] w fun e w' => e = .returned (.int .i64 (BM.vBit n k)) ∧ w = w' := by
  by_cases h0 : k < 0
  · have e : BM.vBit n k = 0 := by unfold BM.vBit; rw [if_neg (by omega)]
    have H := Lib.hid e
    clear e
    go_enter Tryz.func64, Tryz.ntmps64
    go_wp2
    go_ret
    exact ⟨ret_int H.out.symm, rfl⟩
  · by_cases h1 : 15 < k
    · have e : BM.vBit n k = 0 := by unfold BM.vBit; rw [if_neg (by omega)]
      have H := Lib.hid e
      clear e
      go_enter Tryz.func64, Tryz.ntmps64
      go_wp2
      go_ret
      exact ⟨ret_int H.out.symm, rfl⟩
    · have e : BM.vBit n k = n / 2 ^ k.toNat % 2 := by unfold BM.vBit; rw [if_pos (by omega)]
      have H := Lib.hid e
      clear e
      have h3 : 0 ≤ k := by omega
      have h4 : k ≤ 64 := by omega
      go_enter Tryz.func64, Tryz.ntmps64
      go_wp2
      go_ret
      exact ⟨ret_int ((BM.and1 _).trans H.out.symm), rfl⟩
theorem put_any (n k : Int) (on : Bool) (hn : -9223372036854775808 ≤ n ∧ n ≤ 9223372036854775807) (w : World) :
    Calls Tryz.prog 79 #[.int .i64 n, .int .i64 k, .bool on] w fun e w' => e = .returned (.int .i64 (BM.vPut n k on)) ∧ w = w' := by
  obtain ⟨hn1, hn2⟩ := hn
  by_cases h0 : k < 0
  · have e : BM.vPut n k on = n % 65536 := by unfold BM.vPut; rw [if_neg (by omega)]
    have H := Lib.hid e
    clear e
    go_enter Tryz.func79, Tryz.ntmps79
    go_wp2_with (go_at_call 21; refine (word_any _ _).mono ?_; rintro e w' ⟨rfl, rfl⟩)
    go_ret
    exact ⟨ret_int H.out.symm, rfl⟩
  · by_cases h1 : 15 < k
    · have e : BM.vPut n k on = n % 65536 := by unfold BM.vPut; rw [if_neg (by omega)]
      have H := Lib.hid e
      clear e
      go_enter Tryz.func79, Tryz.ntmps79
      go_wp2_with (go_at_call 21; refine (word_any _ _).mono ?_; rintro e w' ⟨rfl, rfl⟩)
      go_ret
      exact ⟨ret_int H.out.symm, rfl⟩
    · cases on
      · have H := Lib.hid (BM.put_off n k ⟨hn1, hn2⟩ (by omega))
        have h3 : 0 ≤ k := by omega
        have h4 : k ≤ 64 := by omega
        go_enter Tryz.func79, Tryz.ntmps79
        go_wp2_with (go_at_call 21; refine (word_any _ _).mono ?_; rintro e w' ⟨rfl, rfl⟩)
        go_ret
        exact ⟨ret_int H.out, rfl⟩
      · have H := Lib.hid (BM.put_on n k ⟨hn1, hn2⟩ (by omega))
        have h3 : 0 ≤ k := by omega
        have h4 : k ≤ 64 := by omega
        go_enter Tryz.func79, Tryz.ntmps79
        go_wp2_with (go_at_call 21; refine (word_any _ _).mono ?_; rintro e w' ⟨rfl, rfl⟩)
        go_ret
        exact ⟨ret_int H.out, rfl⟩
theorem together_two (b : Nat) (x y : Int) (w : World) (h0 : w.cell? ⟨b, 0, none⟩ = some (.int .i64 x)) (h1 : w.cell? ⟨b, 1, none⟩ = some (.int .i64 y)) :
    Calls Tryz.prog 84 #[.slice (some ⟨b, 0, none⟩) 2 2] w fun e w' => e = .returned (.int .i64 (x % 256 + 256 * (y % 256))) ∧ w = w' := by
  have hx0 : 0 ≤ x % 256 := by omega
  have hx1 : x % 256 ≤ 255 := by omega
  have hy0 : 0 ≤ y % 256 := by omega
  have hy1 : y % 256 ≤ 255 := by omega
  have J := Lib.hid (BM.or_join 8 (y % 256 * 256) (x % 256) (by omega) (by omega) (by omega) (by omega) (by omega) (by omega))
  have Z := Lib.hid (BM.zero_or (x % 256) (by omega))
  go_enter Tryz.func84, Tryz.ntmps84
  go_wp2
  go_loop [3, 8] (fun n i => (i = .int .i64 0 ∧ n = .int .i64 0) ∨ (i = .int .i64 1 ∧ n = .int .i64 (x % 256)) ∨ (i = .int .i64 2 ∧ n = .int .i64 (x % 256 + 256 * (y % 256)))) (fun _ i => 2 - (intOf i).toNat)
  case atStart => exact .inl ⟨rfl, rfl⟩
  case round =>
    rcases hrel with ⟨rfl, rfl⟩ | ⟨rfl, rfl⟩ | ⟨rfl, rfl⟩
    · go_wp2_with (go_at_call 30; refine (byte_any _ _).mono ?_; rintro e w' ⟨rfl, rfl⟩)
      go_round
      case rel => exact .inr (.inl ⟨rfl, i64_num Z.out⟩)
      case measure => simp [intOf]
    · go_wp2_with (go_at_call 30; refine (byte_any _ _).mono ?_; rintro e w' ⟨rfl, rfl⟩)
      go_round
      case rel => exact .inr (.inr ⟨rfl, i64_num ((BM.or_comm _ _).trans (J.out.trans (by omega)))⟩)
      case measure => simp [intOf]
    · go_wp2
      go_ret
      exact ⟨rfl, rfl⟩
theorem join_any (x y : Int) (w : World) :
    Calls Tryz.prog 72 #[.int .i64 x, .int .i64 y] w fun e w' => e = .returned (.int .i64 (x % 256 + 256 * (y % 256))) ∧ Up w w' := by
  go_enter Tryz.func72, Tryz.ntmps72
  go_wp2_with (go_at_call 84; refine (together_two _ x y _ (by simp) (by simp)).mono ?_; rintro e w' ⟨rfl, rfl⟩)
  go_ret
  exact ⟨rfl, (Up.refl _).alloc _⟩
end Go.Proofs.YteepfbcialekeaaGreatDoor
