/- Contracts of the functions of the packages bits and phosphorref01: what each returns, and that the world stays as it is. -/
import Derived.Test.YtmbfcbjnidgieaaRows
import Derived.WalkKit
import Derived.WalkSpells
import Derived.WalkLawsBesides
import Derived.Below
import Derived.Lib.Hide
import Derived.Test.YtmbfcbjnidgieaaBM
namespace Go.Proofs.Ytmbfcbjnidgieaa
open Go.RowKit

theorem ret_int {k : IntKind} {a b : Int} (h : a = b) : Ending.returned (.int k a) = .returned (.int k b) := by rw [h]
theorem ret_bool {a b : Bool} (h : a = b) : Ending.returned (.bool a) = .returned (.bool b) := by rw [h]
theorem i64_num {a b : Int} (h : a = b) : Value.int .i64 a = .int .i64 b := by rw [h]
theorem i8_any (n : Int) : wrap64 (IntKind.i8.wrap n) = (n + 128) % 256 - 128 := by
  simp only [IntKind.wrap, IntKind.bits, IntKind.signed, wrap64]; simp; split <;> omega
/-- Nothing that was there has been turned. -/
def Up (w w' : World) : Prop := Below w.heap.size w w'
@[simp] theorem Up.refl (w : World) : Up w w := Below.refl _ _
theorem Up.trans {a b c : World} (h : Up a b) (k : Up b c) : Up a c := Below.trans h (Below.mono k (Below.size h))
@[simp] theorem Up.alloc {a w : World} (h : Up a w) (o : Obj) : Up a (w.alloc o) := Below.alloc h (Below.size h) o
@[simp] theorem Up.drew {a w : World} (h : Up a w) : Up a w.drew := Below.drew h
@[simp] theorem Up.drewN {a w : World} (h : Up a w) (n : Nat) : Up a (w.drewN n) := Below.trans h ⟨rfl, rfl, rfl, Nat.le_refl _, fun _ _ => rfl⟩
theorem Up.setCell {a w : World} (h : Up a w) {p : Addr} (hp : a.heap.size ≤ p.block) (v : Value) : Up a (w.setCell p v) := Below.setCell h hp v
theorem Up.size {a w : World} (h : Up a w) : a.heap.size ≤ w.heap.size := Below.size h
theorem Up.cell {a w : World} (h : Up a w) {b o : Nat} (hb : b < a.heap.size) : w.cell? ⟨b, o, none⟩ = a.cell? ⟨b, o, none⟩ := Below.cell h (p := ⟨b, o, none⟩) hb
theorem Up.frozen {a w : World} (h : Up a w) {b o : Nat} (hb : b < a.heap.size) : w.frozen? ⟨b, o, none⟩ = a.frozen? ⟨b, o, none⟩ := Below.frozen h (p := ⟨b, o, none⟩) hb
theorem Up.facts {a w : World} (h : Up a w) : (∀ b o, b < a.heap.size → w.cell? ⟨b, o, none⟩ = a.cell? ⟨b, o, none⟩) ∧ (∀ b o, b < a.heap.size → w.frozen? ⟨b, o, none⟩ = a.frozen? ⟨b, o, none⟩) ∧ a.heap.size ≤ w.heap.size :=
  ⟨fun _ _ hb => h.cell hb, fun _ _ hb => h.frozen hb, h.size⟩
theorem Up.heap {a w : World} (h : Up a w) {b : Nat} (hb : b < a.heap.size) : w.heap[b]? = a.heap[b]? := Below.block h b hb
theorem byte_any (n : Int) (w : World) : Calls Try.prog 16 #[.int .i64 n] w fun e w' => e = .returned (.int .i64 (n % 256)) ∧ w = w' := by
  go_enter Try.func16, Try.ntmps16
  go_wp2
  go_ret
  exact ⟨ret_int (BM.and255 n), rfl⟩
theorem word_any (n : Int) (w : World) : Calls Try.prog 18 #[.int .i64 n] w fun e w' => e = .returned (.int .i64 (n % 65536)) ∧ w = w' := by
  go_enter Try.func18, Try.ntmps18
  go_wp2
  go_ret
  exact ⟨ret_int (BM.and65535 n), rfl⟩
theorem signed_any (n : Int) (w : World) : Calls Try.prog 19 #[.int .i64 n] w fun e w' => e = .returned (.int .i64 ((n + 128) % 256 - 128)) ∧ w = w' := by
  go_enter Try.func19, Try.ntmps19
  go_wp2
  go_ret
  exact ⟨ret_int (i8_any n), rfl⟩
theorem mod_any (n m : Int) (w : World) (h0 : 1 ≤ m) (h1 : m ≤ 4611686018427387904) (hn : -9223372036854775808 ≤ n ∧ n ≤ 9223372036854775807) :
    Calls Try.prog 25 #[.int .i64 n, .int .i64 m] w fun e w' => e = .returned (.int .i64 (n % m)) ∧ w = w' := by
  obtain ⟨hn1, hn2⟩ := hn
  have hm0 : (m == 0) = false := by rw [beq_eq_false_iff_ne]; omega
  have hm1 : (m != 0) = true := by rw [bne_iff_ne]; omega
  have ht := BM.tmod_cases n m (by omega)
  by_cases h : n.tmod m < 0
  · have e : n.tmod m + m = n % m := by omega
    have hb : -m < n.tmod m := ht.1
    have E := Lib.hid e
    clear e ht
    go_enter Try.func25, Try.ntmps25
    go_wp2
    go_ret
    exact ⟨ret_int E.out, rfl⟩
  · have e : n.tmod m = n % m := by omega
    have E := Lib.hid e
    clear e ht
    go_enter Try.func25, Try.ntmps25
    go_wp2
    go_ret
    exact ⟨ret_int E.out, rfl⟩
theorem rbyte_any (n : Int) (w : World) (hn : -9223372036854775808 ≤ n ∧ n ≤ 9223372036854775807) : Calls Try.prog 24 #[.int .i64 n] w fun e w' => e = .returned (.int .i64 (n % 256)) ∧ w = w' := by
  go_enter Try.func24, Try.ntmps24
  go_wp2_with (go_at_call 25; refine (mod_any _ _ _ (by omega) (by omega) hn).mono ?_; rintro e w' ⟨rfl, rfl⟩)
  go_ret
  exact ⟨rfl, rfl⟩
theorem rword_any (n : Int) (w : World) (hn : -9223372036854775808 ≤ n ∧ n ≤ 9223372036854775807) : Calls Try.prog 22 #[.int .i64 n] w fun e w' => e = .returned (.int .i64 (n % 65536)) ∧ w = w' := by
  go_enter Try.func22, Try.ntmps22
  go_wp2_with (go_at_call 25; refine (mod_any _ _ _ (by omega) (by omega) hn).mono ?_; rintro e w' ⟨rfl, rfl⟩)
  go_ret
  exact ⟨rfl, rfl⟩
theorem rsigned_any (n : Int) (w : World) (hn : -9223372036854775808 ≤ n ∧ n ≤ 9223372036854775807) : Calls Try.prog 23 #[.int .i64 n] w fun e w' => e = .returned (.int .i64 ((n + 128) % 256 - 128)) ∧ w = w' := by
  have h0 : 0 ≤ n % 256 := by omega
  have h1 : n % 256 ≤ 255 := by omega
  by_cases h : 128 ≤ n % 256
  · go_enter Try.func23, Try.ntmps23
    go_wp2_with (go_at_call 24; refine (rbyte_any _ _ hn).mono ?_; rintro e w' ⟨rfl, rfl⟩)
    go_ret
    exact ⟨ret_int (by omega), rfl⟩
  · go_enter Try.func23, Try.ntmps23
    go_wp2_with (go_at_call 24; refine (rbyte_any _ _ hn).mono ?_; rintro e w' ⟨rfl, rfl⟩)
    go_ret
    exact ⟨ret_int (by omega), rfl⟩
end Go.Proofs.Ytmbfcbjnidgieaa
