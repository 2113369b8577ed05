/- Contracts of the functions of the packages bits and phosphorref01: what each returns, and that the world stays as it is. -/
import Derived.Test.YtandoejbimihoaaRows
import Derived.WalkKit
import Derived.WalkSpells
import Derived.WalkLawsBesides
import Derived.Below
import Derived.Lib.Hide
import Derived.Test.YtandoejbimihoaaBM
namespace Go.Proofs.Ytandoejbimihoaa
open Go.RowKit

theorem ret_int {k : IntKind} {a b : Int} (h : a = b) : Ending.returned (.int k a) = .returned (.int k b) := by rw [h]
theorem ret_bool {a b : Bool} (h : a = b) : Ending.returned (.bool a) = .returned (.bool b) := by rw [h]
theorem i64_num {a b : Int} (h : a = b) : Value.int .i64 a = .int .i64 b := by rw [h]
theorem i8_any (n : Int) : wrap64 (IntKind.i8.wrap n) = (n + 128) % 256 - 128 := by
  simp only [IntKind.wrap, IntKind.bits, IntKind.signed, wrap64]; simp; split <;> omega
/-- Nothing that was there has been turned. -/
def Up (w w' : World) : Prop := Below w.heap.size w w'
@[simp] theorem Up.refl (w : World) : Up w w := Below.refl _ _
theorem Up.trans {a b c : World} (h : Up a b) (k : Up b c) : Up a c := Below.trans h (Below.mono k (Below.size h))
@[simp] theorem Up.alloc {a w : World} (h : Up a w) (o : Obj) : Up a (w.alloc o) := Below.alloc h (Below.size h) o
@[simp] theorem Up.drew {a w : World} (h : Up a w) : Up a w.drew := Below.drew h
@[simp] theorem Up.drewN {a w : World} (h : Up a w) (n : Nat) : Up a (w.drewN n) := Below.trans h ⟨rfl, rfl, rfl, Nat.le_refl _, fun _ _ => rfl⟩
theorem Up.setCell {a w : World} (h : Up a w) {p : Addr} (hp : a.heap.size ≤ p.block) (v : Value) : Up a (w.setCell p v) := Below.setCell h hp v
theorem Up.size {a w : World} (h : Up a w) : a.heap.size ≤ w.heap.size := Below.size h
theorem Up.cell {a w : World} (h : Up a w) {b o : Nat} (hb : b < a.heap.size) : w.cell? ⟨b, o, none⟩ = a.cell? ⟨b, o, none⟩ := Below.cell h (p := ⟨b, o, none⟩) hb
theorem Up.frozen {a w : World} (h : Up a w) {b o : Nat} (hb : b < a.heap.size) : w.frozen? ⟨b, o, none⟩ = a.frozen? ⟨b, o, none⟩ := Below.frozen h (p := ⟨b, o, none⟩) hb
theorem Up.facts {a w : World} (h : Up a w) : (∀ b o, b < a.heap.size → w.cell? ⟨b, o, none⟩ = a.cell? ⟨b, o, none⟩) ∧ (∀ b o, b < a.heap.size → w.frozen? ⟨b, o, none⟩ = a.frozen? ⟨b, o, none⟩) ∧ a.heap.size ≤ w.heap.size :=
  ⟨fun _ _ hb => h.cell hb, fun _ _ hb => h.frozen hb, h.size⟩
theorem Up.heap {a w : World} (h : Up a w) {b : Nat} (hb : b < a.heap.size) : w.heap[b]? = a.heap[b]? := Below.block h b hb
theorem byte_any (n : Int) (w : World) : Calls Try.prog 14 #[.int .i64 n] w fun e w' => e = .returned (.int .i64 (n % 256)) ∧ w = w' := by
  go_enter Try.func14, Try.ntmps14
  go_wp2
  go_ret
  exact ⟨ret_int (BM.and255 n), rfl⟩
theorem word_any (n : Int) (w : World) : Calls Try.prog 18 #[.int .i64 n] w fun e w' => e = .returned (.int .i64 (n % 65536)) ∧ w = w' := by
  go_enter Try.func18, Try.ntmps18
  go_wp2
  go_ret
  exact ⟨ret_int (BM.and65535 n), rfl⟩
theorem bit_any (n k : Int) (w : World) : Calls Try.prog 13 #[.int .i64 n, .int .i64 k] w fun e w' => e = .returned (.int .i64 (BM.vBit n k)) ∧ w = w' := by
  by_cases h0 : k < 0
  · have e : BM.vBit n k = 0 := by unfold BM.vBit; rw [if_neg (by omega)]
    have H := Lib.hid e
    clear e
    go_enter Try.func13, Try.ntmps13
    go_wp2
    go_ret
    exact ⟨ret_int H.out.symm, rfl⟩
  · by_cases h1 : 15 < k
    · have e : BM.vBit n k = 0 := by unfold BM.vBit; rw [if_neg (by omega)]
      have H := Lib.hid e
      clear e
      go_enter Try.func13, Try.ntmps13
      go_wp2
      go_ret
      exact ⟨ret_int H.out.symm, rfl⟩
    · have e : BM.vBit n k = n / 2 ^ k.toNat % 2 := by unfold BM.vBit; rw [if_pos (by omega)]
      have H := Lib.hid e
      clear e
      have h3 : 0 ≤ k := by omega
      have h4 : k ≤ 64 := by omega
      go_enter Try.func13, Try.ntmps13
      go_wp2
      go_ret
      exact ⟨ret_int ((BM.and1 _).trans H.out.symm), rfl⟩
theorem put_any (n k : Int) (on : Bool) (hn : -9223372036854775808 ≤ n ∧ n ≤ 9223372036854775807) (w : World) :
    Calls Try.prog 17 #[.int .i64 n, .int .i64 k, .bool on] w fun e w' => e = .returned (.int .i64 (BM.vPut n k on)) ∧ w = w' := by
  obtain ⟨hn1, hn2⟩ := hn
  by_cases h0 : k < 0
  · have e : BM.vPut n k on = n % 65536 := by unfold BM.vPut; rw [if_neg (by omega)]
    have H := Lib.hid e
    clear e
    go_enter Try.func17, Try.ntmps17
    go_wp2_with (go_at_call 18; refine (word_any _ _).mono ?_; rintro e w' ⟨rfl, rfl⟩)
    go_ret
    exact ⟨ret_int H.out.symm, rfl⟩
  · by_cases h1 : 15 < k
    · have e : BM.vPut n k on = n % 65536 := by unfold BM.vPut; rw [if_neg (by omega)]
      have H := Lib.hid e
      clear e
      go_enter Try.func17, Try.ntmps17
      go_wp2_with (go_at_call 18; refine (word_any _ _).mono ?_; rintro e w' ⟨rfl, rfl⟩)
      go_ret
      exact ⟨ret_int H.out.symm, rfl⟩
    · cases on
      · have H := Lib.hid (BM.put_off n k ⟨hn1, hn2⟩ (by omega))
        have h3 : 0 ≤ k := by omega
        have h4 : k ≤ 64 := by omega
        go_enter Try.func17, Try.ntmps17
        go_wp2_with (go_at_call 18; refine (word_any _ _).mono ?_; rintro e w' ⟨rfl, rfl⟩)
        go_ret
        exact ⟨ret_int H.out, rfl⟩
      · have H := Lib.hid (BM.put_on n k ⟨hn1, hn2⟩ (by omega))
        have h3 : 0 ≤ k := by omega
        have h4 : k ≤ 64 := by omega
        go_enter Try.func17, Try.ntmps17
        go_wp2_with (go_at_call 18; refine (word_any _ _).mono ?_; rintro e w' ⟨rfl, rfl⟩)
        go_ret
        exact ⟨ret_int H.out, rfl⟩
end Go.Proofs.Ytandoejbimihoaa
