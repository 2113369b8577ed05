/- The walk of the law MprSides: it returns true. -/
import Derived.Test.YthgcagnfjldlfaaB
import Derived.Test.YthgcagnfjldlfaaOP
import Derived.Deep.RegionHeld3
import Derived.Lib.Hide
namespace Go.Proofs.Ythgcagnfjldlfaa
open Go.RowKit

theorem vPhys_rng (F : Nat → Int) (n : Int) : 0 ≤ vPhys F n ∧ vPhys F n ≤ 2097151 := by unfold vPhys; omega
theorem vPhys_step (F : Nat → Int) (n m : Int) (hq : m % 65536 / 8192 = n % 65536 / 8192) : vPhys F m = vPhys F n - n % 8192 + m % 8192 := by unfold vPhys; rw [hq]; omega
theorem xor_self (a b d : Int) (hd : -9223372036854775808 ≤ d ∧ d ≤ 9223372036854775807) (h : b = bits .xor .i64 a d) : bits .xor .i64 a b = d := by
  apply BM.ext _ _ (BM.rng _ _ _) hd
  intro i hi
  rw [h, BM.bt_xor _ _ _ hi, BM.bt_xor _ _ _ hi]
  cases BM.bt a i <;> cases BM.bt d i <;> rfl
theorem phys_x0 (F : Nat → Int) (n : Int) (hn : -9223372036854775808 ≤ n ∧ n ≤ 9223372036854775807) : bits .xor .i64 (vPhys F n) (vPhys F (bits .xor .i64 n 1)) = 1 := by
  have hr := vPhys_rng F n
  apply xor_self _ _ _ (by decide)
  have h1 := BM.xor_bit n 0 (by decide) hn
  have h2 := BM.xor_bit (vPhys F n) 0 (by decide) (by omega)
  rw [show (2 : Int) ^ 0 = 1 from rfl] at h1 h2
  rw [h1, h2]
  have hb : BM.bt (vPhys F n) 0 = BM.bt n 0 := by
    have : vPhys F n / 2 ^ 0 % 2 = n / 2 ^ 0 % 2 := by unfold vPhys; rw [show (2 : Int) ^ 0 = 1 from rfl]; omega
    unfold BM.bt; rw [this]
  rw [hb]
  split
  · rename_i h
    have h : n % 2 = 1 := by unfold BM.bt at h; simpa using h
    rw [vPhys_step F n (n - 1) (by omega)]; omega
  · rename_i h
    have h : n % 2 = 0 := by
      unfold BM.bt at h
      have h' : ¬ n % 2 = 1 := by simpa using h
      omega
    rw [vPhys_step F n (n + 1) (by omega)]; omega
theorem phys_x12 (F : Nat → Int) (n : Int) (hn : -9223372036854775808 ≤ n ∧ n ≤ 9223372036854775807) : bits .xor .i64 (vPhys F n) (vPhys F (bits .xor .i64 n 4096)) = 4096 := by
  have hr := vPhys_rng F n
  apply xor_self _ _ _ (by decide)
  have h1 := BM.xor_bit n 12 (by decide) hn
  have h2 := BM.xor_bit (vPhys F n) 12 (by decide) (by omega)
  rw [show (2 : Int) ^ 12 = 4096 from rfl] at h1 h2
  rw [h1, h2]
  have hb : BM.bt (vPhys F n) 12 = BM.bt n 12 := by
    have : vPhys F n / 2 ^ 12 % 2 = n / 2 ^ 12 % 2 := by unfold vPhys; rw [show (2 : Int) ^ 12 = 4096 from rfl]; omega
    unfold BM.bt; rw [this]
  rw [hb]
  split
  · rename_i h
    have h : n / 4096 % 2 = 1 := by unfold BM.bt at h; simpa using h
    rw [vPhys_step F n (n - 4096) (by omega)]; omega
  · rename_i h
    have h : n / 4096 % 2 = 0 := by
      unfold BM.bt at h
      have h' : ¬ n / 4096 % 2 = 1 := by simpa using h
      omega
    rw [vPhys_step F n (n + 4096) (by omega)]; omega

set_option maxHeartbeats 8000000 in
set_option maxRecDepth 100000 in
theorem walk_mprSides (c0 : List Value) (f0 : OP.FitsAll [true, true, true, true, true, true, true, true] c0) (n : Int) (hn : -9223372036854775808 ≤ n ∧ n ≤ 9223372036854775807) (w : World) :
    Calls Try.prog 3 #[.agg ⟨c0⟩, .int .i64 n] w fun e w' => e = .returned (.bool true) ∧ Below w.heap.size w w' := by
  have e0 := f0
  obtain ⟨v0, q0, rfl, _, e1⟩ := OP.cons_int e0
  obtain ⟨v1, q1, rfl, _, e2⟩ := OP.cons_int e1
  obtain ⟨v2, q2, rfl, _, e3⟩ := OP.cons_int e2
  obtain ⟨v3, q3, rfl, _, e4⟩ := OP.cons_int e3
  obtain ⟨v4, q4, rfl, _, e5⟩ := OP.cons_int e4
  obtain ⟨v5, q5, rfl, _, e6⟩ := OP.cons_int e5
  obtain ⟨v6, q6, rfl, _, e7⟩ := OP.cons_int e6
  obtain ⟨v7, q7, rfl, _, e8⟩ := OP.cons_int e7
  obtain rfl := OP.none_left e8
  obtain ⟨F, rfl, rfl, rfl, rfl, rfl, rfl, rfl, rfl⟩ : ∃ F : Nat → Int, F 0 = v0 ∧ F 1 = v1 ∧ F 2 = v2 ∧ F 3 = v3 ∧ F 4 = v4 ∧ F 5 = v5 ∧ F 6 = v6 ∧ F 7 = v7 := ⟨fun i => match i with | 0 => v0 | 1 => v1 | 2 => v2 | 3 => v3 | 4 => v4 | 5 => v5 | 6 => v6 | _ => v7, rfl, rfl, rfl, rfl, rfl, rfl, rfl, rfl⟩
  clear f0 e0 e1 e2 e3 e4 e5 e6 e7 e8

  have ha := phys_x0 F n hn
  have hb := phys_x12 F n hn
  obtain ⟨hr0, hr1⟩ := vPhys_rng F n
  obtain ⟨N1, h1⟩ : ∃ x, bits .xor .i64 n 1 = x := ⟨_, rfl⟩
  obtain ⟨N2, h2⟩ : ∃ x, bits .xor .i64 n 4096 = x := ⟨_, rfl⟩
  rw [h1] at ha
  rw [h2] at hb
  have HP := Lib.hid (fun x w => phys_any F x w)
  have HZ := Lib.hid (show ∀ w, Calls Try.prog 7 #[.agg #[.int .i64 0, .int .i64 0, .int .i64 0, .int .i64 0, .int .i64 0, .int .i64 0, .int .i64 0, .int .i64 0], .int .i64 65535] w fun e w' => e = .returned (.int .i64 8191) ∧ Up w w' from fun w => (show vPhys (fun _ => 0) 65535 = 8191 by decide +kernel) ▸ phys_any (fun _ => 0) 65535 w)
  go_enter Try.func3, Try.ntmps3
  go_wp2_with fail
  have hU_W0 : Up w (w.alloc (.cells ⟨[.int .i64 (F 0), .int .i64 (F 1), .int .i64 (F 2), .int .i64 (F 3), .int .i64 (F 4), .int .i64 (F 5), .int .i64 (F 6), .int .i64 (F 7)]⟩ 22)) := (Up.refl w).alloc _
  have yW00 : w.heap.size < (w.alloc (.cells ⟨[.int .i64 (F 0), .int .i64 (F 1), .int .i64 (F 2), .int .i64 (F 3), .int .i64 (F 4), .int .i64 (F 5), .int .i64 (F 6), .int .i64 (F 7)]⟩ 22)).heap.size := by (try simp only [World.size_alloc]); omega
  have zW00 : (w.alloc (.cells ⟨[.int .i64 (F 0), .int .i64 (F 1), .int .i64 (F 2), .int .i64 (F 3), .int .i64 (F 4), .int .i64 (F 5), .int .i64 (F 6), .int .i64 (F 7)]⟩ 22)).cell? ⟨w.heap.size, 0, none⟩ = some (.int .i64 (F 0)) := by go_simp
  have zW01 : (w.alloc (.cells ⟨[.int .i64 (F 0), .int .i64 (F 1), .int .i64 (F 2), .int .i64 (F 3), .int .i64 (F 4), .int .i64 (F 5), .int .i64 (F 6), .int .i64 (F 7)]⟩ 22)).cell? ⟨w.heap.size, 1, none⟩ = some (.int .i64 (F 1)) := by go_simp
  have zW02 : (w.alloc (.cells ⟨[.int .i64 (F 0), .int .i64 (F 1), .int .i64 (F 2), .int .i64 (F 3), .int .i64 (F 4), .int .i64 (F 5), .int .i64 (F 6), .int .i64 (F 7)]⟩ 22)).cell? ⟨w.heap.size, 2, none⟩ = some (.int .i64 (F 2)) := by go_simp
  have zW03 : (w.alloc (.cells ⟨[.int .i64 (F 0), .int .i64 (F 1), .int .i64 (F 2), .int .i64 (F 3), .int .i64 (F 4), .int .i64 (F 5), .int .i64 (F 6), .int .i64 (F 7)]⟩ 22)).cell? ⟨w.heap.size, 3, none⟩ = some (.int .i64 (F 3)) := by go_simp
  have zW04 : (w.alloc (.cells ⟨[.int .i64 (F 0), .int .i64 (F 1), .int .i64 (F 2), .int .i64 (F 3), .int .i64 (F 4), .int .i64 (F 5), .int .i64 (F 6), .int .i64 (F 7)]⟩ 22)).cell? ⟨w.heap.size, 4, none⟩ = some (.int .i64 (F 4)) := by go_simp
  have zW05 : (w.alloc (.cells ⟨[.int .i64 (F 0), .int .i64 (F 1), .int .i64 (F 2), .int .i64 (F 3), .int .i64 (F 4), .int .i64 (F 5), .int .i64 (F 6), .int .i64 (F 7)]⟩ 22)).cell? ⟨w.heap.size, 5, none⟩ = some (.int .i64 (F 5)) := by go_simp
  have zW06 : (w.alloc (.cells ⟨[.int .i64 (F 0), .int .i64 (F 1), .int .i64 (F 2), .int .i64 (F 3), .int .i64 (F 4), .int .i64 (F 5), .int .i64 (F 6), .int .i64 (F 7)]⟩ 22)).cell? ⟨w.heap.size, 6, none⟩ = some (.int .i64 (F 6)) := by go_simp
  have zW07 : (w.alloc (.cells ⟨[.int .i64 (F 0), .int .i64 (F 1), .int .i64 (F 2), .int .i64 (F 3), .int .i64 (F 4), .int .i64 (F 5), .int .i64 (F 6), .int .i64 (F 7)]⟩ 22)).cell? ⟨w.heap.size, 7, none⟩ = some (.int .i64 (F 7)) := by go_simp
  generalize (w.alloc (.cells ⟨[.int .i64 (F 0), .int .i64 (F 1), .int .i64 (F 2), .int .i64 (F 3), .int .i64 (F 4), .int .i64 (F 5), .int .i64 (F 6), .int .i64 (F 7)]⟩ 22)) = W0 at *
  go_region_held3 (fun w' => Up W0 w' ∧ ∀ b o, b < W0.heap.size → w'.cell? ⟨b, o, none⟩ = W0.cell? ⟨b, o, none⟩) (first | exact ⟨by assumption, by assumption⟩ | go_keep) (first | (go_at_call 7; refine (HP.out _ _).mono ?_; rintro e w3 ⟨rfl, hB3⟩; have hU3 : Up W0 w3 := (by first | exact Up.trans (by assumption) hB3 | exact Up.trans (Up.drew (Up.refl W0)) hB3); have hc3 : ∀ b o, b < W0.heap.size → w3.cell? ⟨b, o, none⟩ = W0.cell? ⟨b, o, none⟩ := (fun b o hb => hU3.cell hb)))
  obtain ⟨hU4, hc4⟩ := ‹Up W0 w3 ∧ _›
  go_wp2_with fail
  refine (HP.out _ _).mono ?_; rintro e w5 ⟨rfl, hU5⟩
  go_wp2_with fail
  refine (HZ.out _).mono ?_; rintro e w6 ⟨rfl, hU6⟩
  go_wp2_with fail
  go_ret
  exact ⟨ret_bool rfl, ((hU_W0.trans hU4).trans hU5).trans hU6⟩
end Go.Proofs.Ythgcagnfjldlfaa
