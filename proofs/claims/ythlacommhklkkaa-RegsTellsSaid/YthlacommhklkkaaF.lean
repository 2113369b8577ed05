/- Contracts of the reference's functions over registers: small ones. -/
import Derived.Test.YthlacommhklkkaaR2
import Derived.Lib.Hide
namespace Go.Proofs.Ythlacommhklkkaa
open Go.RowKit
open RV
set_option maxHeartbeats 1000000 in
theorem only_any (n m : Int) (hn : -9223372036854775808 ≤ n ∧ n ≤ 9223372036854775807) (hm : -9223372036854775808 ≤ m ∧ m ≤ 9223372036854775807) (w : World) :
    Calls Try.prog 26 #[.int .i64 n, .int .i64 m] w fun e w' => e = .returned (.int .i64 (onlyTo n m 16)) ∧ w = w' := by
  go_enter Try.func26, Try.ntmps26
  go_wp2_with fail
  go_loop [5, 6] (fun o i => ∃ k : Nat, k ≤ 16 ∧ i = .int .i64 k ∧ o = .int .i64 (onlyTo n m k)) (fun _ i => 16 - (intOf i).toNat)
  case atStart => exact ⟨0, by omega, rfl, rfl⟩
  case round =>
    obtain ⟨k, hk, rfl, rfl⟩ := hrel
    by_cases hlt : k < 16
    · have hr := onlyTo_rng n m k hk
      have hr0 : 0 ≤ onlyTo n m k := hr.1
      have hr1 : onlyTo n m k ≤ 65535 := hr.2
      have hr' := onlyTo_rng n m (k + 1) (by omega)
      have hs : onlyTo n m k + BM.vBit n k * BM.vBit m k * 2 ^ k = onlyTo n m (k + 1) := rfl
      have hp := BM.pow_lt15 k (by omega)
      have hx := BM.vBit_rng n k
      have hy := BM.vBit_rng m k
      have hxy : 0 ≤ BM.vBit n k * BM.vBit m k ∧ BM.vBit n k * BM.vBit m k ≤ 1 := by rcases hx.2 with h | h <;> rcases hy.2 with h' | h' <;> rw [h, h'] <;> decide
      have hxyp : 0 ≤ BM.vBit n k * BM.vBit m k * 2 ^ k ∧ BM.vBit n k * BM.vBit m k * 2 ^ k ≤ 32768 := by rcases hx.2 with h | h <;> rcases hy.2 with h' | h' <;> rw [h, h'] <;> simp <;> omega
      rw [← hs] at hr'
      have a0 : 0 ≤ BM.vBit n k * BM.vBit m k := hxy.1
      have a1 : BM.vBit n k * BM.vBit m k ≤ 1 := hxy.2
      have b0 : 0 ≤ BM.vBit n k * BM.vBit m k * 2 ^ k := hxyp.1
      have b1 : BM.vBit n k * BM.vBit m k * 2 ^ k ≤ 32768 := hxyp.2
      have e0 : 0 ≤ onlyTo n m k + BM.vBit n k * BM.vBit m k * 2 ^ k := hr'.1
      have e1 : onlyTo n m k + BM.vBit n k * BM.vBit m k * 2 ^ k ≤ 65535 := hr'.2
      have E := Lib.hid hs
      clear hs hp hx hy hxy hxyp hr hr'
      go_wp2_with (first | (go_at_call 31; refine (rbit_any _ _ _ (by assumption)).mono ?_; rintro e w' ⟨rfl, rfl⟩) | (go_at_call 34; refine (power_any _ _ (by omega)).mono ?_; rintro e w' ⟨rfl, rfl⟩))
      go_round
      case rel => exact ⟨k + 1, by omega, by go_num, i64_num E.out⟩
      case measure => simp [intOf]; omega
    · obtain rfl : k = 16 := by omega
      go_wp2
      go_ret
      exact ⟨rfl, rfl⟩
theorem reffect_any (s : Int) (high : Bool) (w : World) : Calls Try.prog 30 #[.int .i64 s, .int .i64 (if high = true then 3 else 2)] w fun e w' => e = .returned (.int .i64 (vEff s high)) ∧ w = w' := by
  have hs : s = 0 ∨ s = 1 ∨ s = 2 ∨ s = 5 ∨ s = 18 ∨ s = 19 ∨ ((s == 0) = false ∧ (s == 1) = false ∧ (s == 2) = false ∧ (s == 5) = false ∧ (s == 18) = false ∧ (s == 19) = false) := by simp only [beq_eq_false_iff_ne]; omega
  rcases hs with rfl | rfl | rfl | rfl | rfl | rfl | ⟨h0, h1, h2, h5, h8, h9⟩
  all_goals cases high
  all_goals simp only [if_true, Bool.false_eq_true, if_false]
  all_goals (go_enter Try.func30, Try.ntmps30; go_wp2_with fail; go_ret; refine ⟨ret_int ?_, rfl⟩; first | rfl | (simp only [beq_eq_false_iff_ne] at *; simp [vEff, *]))
/-- A slice of whole numbers, written out. -/
theorem buildSlice_is {P : Program} {ops : Array Oper} {rest : List Oper} {o : Oper} {a : Act} {w : World} {Q : Exit → Act → World → Prop} (hgd : Region.wanted o (yielded ops a.tmps) = true) (t e n : Nat) (parts : Array (Nat × Operand)) (ho : o.op = .buildSlice t n parts)
    (hu : P.underlying t = some (.slice e)) (hz : ∀ w, (zeroValue e).run P w = .ok (.int .i64 0) w) (hs : ∀ w, (sizeOf e).run P w = .ok 1 w) (hn : 0 < n) (hn2 : n ≤ 16777216) (F : Nat → Int)
    (hf : Instr.fill (fun i => some (i * 1, 1)) (rv [] n fun _ => 0) (parts.map fun (i, x) => (i, a.eval x)).toList = some (rv [] n F))
    (h : wpList P ops Q rest (a.put o.dst (.slice (some ⟨w.heap.size, 0, none⟩) n n)) (w.alloc (.cells (rv [] n F) e))) : wpList P ops Q (o :: rest) a w := by
  refine wpList_wanted hgd fun K hK => ?_
  have hzz : ((Array.range (n * 1)).map fun i => (#[Value.int .i64 0] : Array Value)[i % 1]!) = rv [] n fun _ => 0 := by
    rw [← replicate_rv]
    apply Array.ext_getElem?
    intro i
    by_cases hi : i < n
    · simp [hi, Nat.mod_one]
    · simp [hi]
  have hrun : (Instr.buildSlice t n (parts.map fun (i, x) => (i, a.eval x))).run P w = .ok (.slice (some ⟨w.heap.size, 0, none⟩) n n) (w.alloc (.cells (rv [] n F) e)) := by
    have h0 : ¬ n * 1 = 0 := by omega
    have h1 : ¬ n * 1 > 2 ^ 24 := by omega
    simp only [Instr.buildSlice, Sem.run_bind, run_underlying hu, Result.andThen_ok, hs, h0, h1, if_false, hz]
    simp only [Nat.mul_one, Sem.run_pure, Result.andThen_ok]
    have hc : (Value.int IntKind.i64 0).cells = #[.int .i64 0] := rfl
    rw [hc]
    rw [Nat.mul_one] at hzz
    have hsz : (#[Value.int .i64 0] : Array Value).size = 1 := rfl
    simp only [Nat.mul_one] at hf
    rw [hsz, hzz, hf]
    rfl
  unfold Oper.wp execOp
  simp only [ho, Sem.run_bind, hrun, Result.andThen_ok]
  exact hK _ _ h
theorem zero3 (w : World) : (zeroValue 3).run Try.prog w = .ok (.int .i64 0) w := Try.zeroValue3 w
theorem sizeOf3 (w : World) : (sizeOf 3).run Try.prog w = .ok 1 w := Try.sizeOf3 w
theorem fill_masks : Instr.fill (fun i => some (i * 1, 1)) (rv [] 20 fun _ => 0) LM = some (rv [] 20 MK) := by rw [← built_20, built_masks]
attribute [local go_sem] rv0_get
theorem mask_any (j : Nat) (hj : j < 20) (w : World) : Calls Try.prog 27 #[.int .i64 j] w fun e w' => e = .returned (.int .i64 (MK j)) ∧ Up w w' := by
  have hj0 : (0 : Int) ≤ (j : Int) := by omega
  have hj1 : (j : Int) < 20 := by omega
  go_enter Try.func27, Try.ntmps27
  go_wp2_with (apply buildSlice_is (F := MK); (case ho => rfl); (case hgd => rfl); (case hu => exact Try.underlying53); (case hz => exact zero3); (case hs => exact sizeOf3); (case hn => decide); (case hn2 => decide); (case hf => (rw [Array.toList_map]; exact fill_masks)))
  go_ret
  exact ⟨rfl, (Up.refl w).alloc _⟩
theorem rraster_any (s : Int) (F : Nat → Int) (h6 : -9223372036854775808 ≤ F 6 ∧ F 6 ≤ 9223372036854775807) (line : Int) (w : World) : Calls Try.prog 19 #[.agg (rv [s] 20 F), .int .i64 line] w fun e w' => e = .returned (.bool (vRas (F 6) line)) ∧ Up w w' := by
  have q : (rv [s] 20 F)[7]? = some (.int .i64 (F 6)) := rv1_get s 20 6 F (by omega)
  have h0 : 0 ≤ F 6 % 65536 := by omega
  have h1 : F 6 % 65536 ≤ 65535 := by omega
  by_cases h : 64 ≤ F 6 % 65536
  · have hd : decide (64 ≤ F 6 % 65536) = true := decide_eq_true h
    go_enter Try.func19, Try.ntmps19
    go_wp2_with (go_at_call 29; refine (rword_any _ _ h6).mono ?_; rintro e w' ⟨rfl, rfl⟩)
    go_ret
    exact ⟨ret_bool (by unfold vRas; rw [hd]; simp), (Up.refl _).alloc _⟩
  · have hd : decide (64 ≤ F 6 % 65536) = false := decide_eq_false h
    go_enter Try.func19, Try.ntmps19
    go_wp2_with (go_at_call 29; refine (rword_any _ _ h6).mono ?_; rintro e w' ⟨rfl, rfl⟩)
    go_ret
    exact ⟨ret_bool (by unfold vRas; rw [hd]; simp), (Up.refl _).alloc _⟩
end Go.Proofs.Ythlacommhklkkaa
