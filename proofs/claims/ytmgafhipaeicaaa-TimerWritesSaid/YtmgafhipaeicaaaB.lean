/- Contracts of the functions Advance, Next, Write and Read of the package timer. -/
import Derived.Test.YtmgafhipaeicaaaA
import Derived.Test.YtmgafhipaeicaaaP
namespace Go.Proofs.Ytmgafhipaeicaaa
open Go.RowKit
attribute [local go_sem] BM.and127

theorem wrap_eq {a b : Int} (h : a = b) (hb : -9223372036854775808 ≤ b ∧ b ≤ 9223372036854775807) : wrap64 a = b := by
  rw [h]; exact IntWalk.wrap64_in _ hb

theorem valid_true {r c : Int} {on : Bool} {p : Int} (h1 : 0 ≤ r) (h2 : r ≤ 127) (h3 : 0 ≤ c) (h4 : c ≤ 127) (h5 : 0 ≤ p) (h6 : p ≤ 3071) (h7 : on = true) : vValid r c on p = true := by
  subst h7
  simp [vValid, vIn, h1, h2, h3, h4, h5, h6]

set_option maxHeartbeats 1000000 in
theorem adv_yes (r c p t : Int) (h1 : 0 ≤ r) (h2 : r ≤ 127) (h3 : 0 ≤ c) (h4 : c ≤ 127) (h5 : 0 ≤ p) (h6 : p ≤ 3071) (h7 : 1 ≤ t) (h8 : t ≤ 1099511627776) (w : World) :
    Calls Try.prog 8 #[.agg #[.int .i64 r, .int .i64 c, .bool true, .int .i64 p], .int .i64 t] w
      fun e w' => e = .returned (.tuple #[.agg #[.int .i64 r, .int .i64 (vCount r c ((p + t) / 3072)), .bool true, .int .i64 ((p + t) % 3072)], .int .i64 (vRound c r ((p + t) / 3072))]) ∧ Up w w' := by
  have hv := valid_true h1 h2 h3 h4 h5 h6 rfl
  have e0 : 0 ≤ (p + t) / 3072 := by omega
  have e1 : (p + t) / 3072 ≤ 400000000 := by omega
  have e2 : 0 ≤ (p + t) % 3072 := by omega
  have d0 : decide (t < 1) = false := decide_eq_false (by omega)
  have d1 : decide (1099511627776 < t) = false := decide_eq_false (by omega)
  by_cases hle : (p + t) / 3072 ≤ c
  · have E1 := Lib.hid (show vCount r c ((p + t) / 3072) = c - (p + t) / 3072 by unfold vCount; rw [if_pos hle])
    have E2 := Lib.hid (show vRound c r ((p + t) / 3072) = 0 by unfold vRound; rw [if_pos hle])
    go_enter Try.func8, Try.ntmps8
    go_wp2_with fail
    refine (valid_any _ _ _ _ _).mono ?_; rintro e w1 ⟨rfl, rfl⟩
    go_wp2
    refine bodyPost_ret (v := .tuple #[.agg #[.int .i64 r, .int .i64 (vCount r c ((p + t) / 3072)), .bool true, .int .i64 ((p + t) % 3072)], .int .i64 (vRound c r ((p + t) / 3072))]) ?_ rfl ⟨rfl, ?_⟩
    · simp [results, Try.results8, go_sem]
      exact ⟨E1.out.symm, E2.out.symm⟩
    · exact (by repeat (first | exact Up.refl _ | assumption | refine Up.drew ?_ | refine Up.alloc ?_ _))
  · have a0 : 1 ≤ r + 1 := by omega
    have a1 : 0 ≤ (p + t) / 3072 - (c + 1) := by omega
    have E1 := Lib.hid (show vCount r c ((p + t) / 3072) = r - ((p + t) / 3072 - (c + 1)) % (r + 1) by unfold vCount; rw [if_neg hle])
    have E2 := Lib.hid (show vRound c r ((p + t) / 3072) = 1 + ((p + t) / 3072 - (c + 1)) / (r + 1) by unfold vRound; rw [if_neg hle])
    go_enter Try.func8, Try.ntmps8
    go_wp2_with fail
    refine (valid_any _ _ _ _ _).mono ?_; rintro e w1 ⟨rfl, rfl⟩
    go_wp2
    go_region
    go_wp2
    go_region
    go_wp2
    refine bodyPost_ret (v := .tuple #[.agg #[.int .i64 r, .int .i64 (vCount r c ((p + t) / 3072)), .bool true, .int .i64 ((p + t) % 3072)], .int .i64 (vRound c r ((p + t) / 3072))]) ?_ rfl ⟨rfl, ?_⟩
    · simp [results, Try.results8, go_sem]
      have hr := count_rng r c ((p + t) / 3072) h1 h3 h4 h2 e0
      exact ⟨wrap_eq E1.out.symm (by omega), wrap_eq E2.out.symm (by omega)⟩
    · exact (by repeat (first | exact Up.refl _ | assumption | refine Up.drew ?_ | refine Up.alloc ?_ _))
set_option maxHeartbeats 1000000 in
theorem adv_bad (r c : Int) (on : Bool) (p t : Int) (h : vValid r c on p = false) (w : World) :
    Calls Try.prog 8 #[.agg #[.int .i64 r, .int .i64 c, .bool on, .int .i64 p], .int .i64 t] w
      fun e w' => e = .returned (.tuple #[.agg #[.int .i64 r, .int .i64 c, .bool on, .int .i64 p], .int .i64 0]) ∧ Up w w' := by
  go_enter Try.func8, Try.ntmps8
  go_wp2_with fail
  refine (valid_any _ _ _ _ _).mono ?_; rintro e w1 ⟨rfl, rfl⟩
  go_wp2
  refine bodyPost_ret (v := .tuple #[.agg #[.int .i64 r, .int .i64 c, .bool on, .int .i64 p], .int .i64 0]) ?_ rfl ⟨rfl, ?_⟩
  · simp [results, Try.results8, go_sem]
  · exact (by repeat (first | exact Up.refl _ | assumption | refine Up.drew ?_ | refine Up.alloc ?_ _))
set_option maxHeartbeats 1000000 in
theorem adv_off (r c : Int) (p t : Int) (h : vValid r c false p = true) (w : World) :
    Calls Try.prog 8 #[.agg #[.int .i64 r, .int .i64 c, .bool false, .int .i64 p], .int .i64 t] w
      fun e w' => e = .returned (.tuple #[.agg #[.int .i64 r, .int .i64 c, .bool false, .int .i64 p], .int .i64 0]) ∧ Up w w' := by
  go_enter Try.func8, Try.ntmps8
  go_wp2_with fail
  refine (valid_any _ _ _ _ _).mono ?_; rintro e w1 ⟨rfl, rfl⟩
  go_wp2
  refine bodyPost_ret (v := .tuple #[.agg #[.int .i64 r, .int .i64 c, .bool false, .int .i64 p], .int .i64 0]) ?_ rfl ⟨rfl, ?_⟩
  · simp [results, Try.results8, go_sem]
  · exact (by repeat (first | exact Up.refl _ | assumption | refine Up.drew ?_ | refine Up.alloc ?_ _))
set_option maxHeartbeats 1000000 in
theorem adv_few (r c : Int) (p t : Int) (h : vValid r c true p = true) (ht : t < 1) (w : World) :
    Calls Try.prog 8 #[.agg #[.int .i64 r, .int .i64 c, .bool true, .int .i64 p], .int .i64 t] w
      fun e w' => e = .returned (.tuple #[.agg #[.int .i64 r, .int .i64 c, .bool true, .int .i64 p], .int .i64 0]) ∧ Up w w' := by
  have d0 : decide (t < 1) = true := decide_eq_true ht
  clear ht
  go_enter Try.func8, Try.ntmps8
  go_wp2_with fail
  refine (valid_any _ _ _ _ _).mono ?_; rintro e w1 ⟨rfl, rfl⟩
  go_wp2
  refine bodyPost_ret (v := .tuple #[.agg #[.int .i64 r, .int .i64 c, .bool true, .int .i64 p], .int .i64 0]) ?_ rfl ⟨rfl, ?_⟩
  · simp [results, Try.results8, go_sem]
  · exact (by repeat (first | exact Up.refl _ | assumption | refine Up.drew ?_ | refine Up.alloc ?_ _))
set_option maxHeartbeats 1000000 in
theorem adv_many (r c : Int) (p t : Int) (h : vValid r c true p = true) (ht : 1099511627776 < t) (w : World) :
    Calls Try.prog 8 #[.agg #[.int .i64 r, .int .i64 c, .bool true, .int .i64 p], .int .i64 t] w
      fun e w' => e = .returned (.tuple #[.agg #[.int .i64 r, .int .i64 c, .bool true, .int .i64 p], .int .i64 0]) ∧ Up w w' := by
  have d0 : decide (t < 1) = false := decide_eq_false (by omega)
  have d1 : decide (1099511627776 < t) = true := decide_eq_true ht
  clear ht
  go_enter Try.func8, Try.ntmps8
  go_wp2_with fail
  refine (valid_any _ _ _ _ _).mono ?_; rintro e w1 ⟨rfl, rfl⟩
  go_wp2
  refine bodyPost_ret (v := .tuple #[.agg #[.int .i64 r, .int .i64 c, .bool true, .int .i64 p], .int .i64 0]) ?_ rfl ⟨rfl, ?_⟩
  · simp [results, Try.results8, go_sem]
  · exact (by repeat (first | exact Up.refl _ | assumption | refine Up.drew ?_ | refine Up.alloc ?_ _))
def vNext (r c : Int) (on : Bool) (p : Int) : Int := if (vValid r c on p && on) = true then (c + 1) * 3072 - p else -1
theorem valid_rng {r c : Int} {on : Bool} {p : Int} (h : vValid r c on p = true) : 0 ≤ r ∧ r ≤ 127 ∧ 0 ≤ c ∧ c ≤ 127 ∧ 0 ≤ p ∧ p ≤ 3071 ∧ (on = true ∨ p = 0) := by
  simp only [vValid, vIn, Bool.and_eq_true, Bool.or_eq_true, decide_eq_true_eq, beq_iff_eq] at h
  obtain ⟨⟨⟨a, b⟩, c⟩, d⟩ := h
  exact ⟨a.1, a.2, b.1, b.2, c.1, c.2, d⟩
set_option maxHeartbeats 1000000 in
theorem next_any (r c : Int) (on : Bool) (p : Int) (w : World) :
    Calls Try.prog 10 #[.agg #[.int .i64 r, .int .i64 c, .bool on, .int .i64 p]] w fun e w' => e = .returned (.int .i64 (vNext r c on p)) ∧ Up w w' := by
  cases hv : vValid r c on p
  · have E := Lib.hid (show vNext r c on p = -1 by unfold vNext; rw [hv]; simp)
    go_enter Try.func10, Try.ntmps10
    go_wp2_with (go_at_call 9; refine (valid_any _ _ _ _ _).mono ?_; rintro e w1 ⟨rfl, rfl⟩)
    go_ret
    exact ⟨ret_int E.out.symm, (by repeat (first | exact Up.refl _ | assumption | refine Up.drew ?_ | refine Up.alloc ?_ _))⟩
  · cases on
    · have E := Lib.hid (show vNext r c false p = -1 by unfold vNext; rw [hv]; simp)
      go_enter Try.func10, Try.ntmps10
      go_wp2_with (go_at_call 9; refine (valid_any _ _ _ _ _).mono ?_; rintro e w1 ⟨rfl, rfl⟩)
      go_ret
      exact ⟨ret_int E.out.symm, (by repeat (first | exact Up.refl _ | assumption | refine Up.drew ?_ | refine Up.alloc ?_ _))⟩
    · have E := Lib.hid (show vNext r c true p = (c + 1) * 3072 - p by unfold vNext; rw [hv]; simp)
      obtain ⟨a1, a2, a3, a4, a5, a6, _⟩ := valid_rng hv
      go_enter Try.func10, Try.ntmps10
      go_wp2_with (go_at_call 9; refine (valid_any _ _ _ _ _).mono ?_; rintro e w1 ⟨rfl, rfl⟩)
      go_ret
      exact ⟨ret_int E.out.symm, (by repeat (first | exact Up.refl _ | assumption | refine Up.drew ?_ | refine Up.alloc ?_ _))⟩
theorem read_any (r c : Int) (on : Bool) (p : Int) (w : World) :
    Calls Try.prog 16 #[.agg #[.int .i64 r, .int .i64 c, .bool on, .int .i64 p]] w fun e w' => e = .returned (.int .i64 c) ∧ Up w w' := by
  go_enter Try.func16, Try.ntmps16
  go_wp2
  go_ret
  exact ⟨rfl, (by repeat (first | exact Up.refl _ | assumption | refine Up.drew ?_ | refine Up.alloc ?_ _))⟩

def wR (r k b : Int) : Int := if k = 0 then b % 128 else r
def wC (r c : Int) (on : Bool) (k b : Int) : Int := if k = 1 ∧ BM.vBit b 0 = 1 ∧ on = false then r else c
def wOn (on : Bool) (k b : Int) : Bool := if k = 1 then decide (BM.vBit b 0 = 1) else on
def wP (on : Bool) (p k b : Int) : Int := if k = 1 ∧ (BM.vBit b 0 ≠ 1 ∨ on = false) then 0 else p
set_option maxHeartbeats 1000000 in
theorem write_any (r c : Int) (on : Bool) (p k b : Int) (w : World) :
    Calls Try.prog 11 #[.agg #[.int .i64 r, .int .i64 c, .bool on, .int .i64 p], .int .i64 k, .int .i64 b] w
      fun e w' => e = .returned (.agg #[.int .i64 (wR r k b), .int .i64 (wC r c on k b), .bool (wOn on k b), .int .i64 (wP on p k b)]) ∧ Up w w' := by
  by_cases k0 : k = 0
  · have d0 : (k == 0) = true := beq_iff_eq.2 k0
    have e1 := Lib.hid (show wR r k b = b % 128 by unfold wR; simp_all)
    have e2 := Lib.hid (show wC r c on k b = c by unfold wC; simp_all)
    have e3 := Lib.hid (show wOn on k b = on by unfold wOn; simp_all)
    have e4 := Lib.hid (show wP on p k b = p by unfold wP; simp_all)
    clear k0
    go_enter Try.func11, Try.ntmps11
    go_wp2_with (go_at_call 18; refine (bit_any _ _ _).mono ?_; rintro e w' ⟨rfl, rfl⟩)
    refine bodyPost_ret (v := .agg #[.int .i64 (wR r k b), .int .i64 (wC r c on k b), .bool (wOn on k b), .int .i64 (wP on p k b)]) ?_ rfl ⟨rfl, ?_⟩
    · simp [results, Try.results11, go_sem]
      exact ⟨e1.out.symm, e2.out.symm, (by first | exact e3.out.symm | exact e3.out), e4.out.symm⟩
    · exact (by repeat (first | exact Up.refl _ | assumption | refine Up.drew ?_ | refine Up.alloc ?_ _))
  · have d0 : (k == 0) = false := beq_eq_false_iff_ne.2 k0
    by_cases k1 : k = 1
    · have d1 : (k != 1) = false := by rw [k1]; rfl
      by_cases hb : BM.vBit b 0 = 1
      · have d2 : (BM.vBit b 0 == 1) = true := beq_iff_eq.2 hb
        cases on
        · skip
          have e1 := Lib.hid (show wR r k b = r by unfold wR; simp_all)
          have e2 := Lib.hid (show wC r c false k b = r by unfold wC; simp_all)
          have e3 := Lib.hid (show wOn false k b = true by unfold wOn; simp_all)
          have e4 := Lib.hid (show wP false p k b = 0 by unfold wP; simp_all)
          clear k0 k1 hb
          go_enter Try.func11, Try.ntmps11
          go_wp2_with (go_at_call 18; refine (bit_any _ _ _).mono ?_; rintro e w' ⟨rfl, rfl⟩)
          refine bodyPost_ret (v := .agg #[.int .i64 (wR r k b), .int .i64 (wC r c false k b), .bool (wOn false k b), .int .i64 (wP false p k b)]) ?_ rfl ⟨rfl, ?_⟩
          · simp [results, Try.results11, go_sem]
            exact ⟨e1.out.symm, e2.out.symm, (by first | exact e3.out.symm | exact e3.out), e4.out.symm⟩
          · exact (by repeat (first | exact Up.refl _ | assumption | refine Up.drew ?_ | refine Up.alloc ?_ _))
        · skip
          have e1 := Lib.hid (show wR r k b = r by unfold wR; simp_all)
          have e2 := Lib.hid (show wC r c true k b = c by unfold wC; simp_all)
          have e3 := Lib.hid (show wOn true k b = true by unfold wOn; simp_all)
          have e4 := Lib.hid (show wP true p k b = p by unfold wP; simp_all)
          clear k0 k1 hb
          go_enter Try.func11, Try.ntmps11
          go_wp2_with (go_at_call 18; refine (bit_any _ _ _).mono ?_; rintro e w' ⟨rfl, rfl⟩)
          refine bodyPost_ret (v := .agg #[.int .i64 (wR r k b), .int .i64 (wC r c true k b), .bool (wOn true k b), .int .i64 (wP true p k b)]) ?_ rfl ⟨rfl, ?_⟩
          · simp [results, Try.results11, go_sem]
            exact ⟨e1.out.symm, e2.out.symm, (by first | exact e3.out.symm | exact e3.out), e4.out.symm⟩
          · exact (by repeat (first | exact Up.refl _ | assumption | refine Up.drew ?_ | refine Up.alloc ?_ _))
      · have d2 : (BM.vBit b 0 == 1) = false := beq_eq_false_iff_ne.2 hb
        have e1 := Lib.hid (show wR r k b = r by unfold wR; simp_all)
        have e2 := Lib.hid (show wC r c on k b = c by unfold wC; simp_all)
        have e3 := Lib.hid (show wOn on k b = false by unfold wOn; simp_all)
        have e4 := Lib.hid (show wP on p k b = 0 by unfold wP; simp_all)
        clear k0 k1 hb
        go_enter Try.func11, Try.ntmps11
        go_wp2_with (go_at_call 18; refine (bit_any _ _ _).mono ?_; rintro e w' ⟨rfl, rfl⟩)
        refine bodyPost_ret (v := .agg #[.int .i64 (wR r k b), .int .i64 (wC r c on k b), .bool (wOn on k b), .int .i64 (wP on p k b)]) ?_ rfl ⟨rfl, ?_⟩
        · simp [results, Try.results11, go_sem]
          exact ⟨e1.out.symm, e2.out.symm, (by first | exact e3.out.symm | exact e3.out), e4.out.symm⟩
        · exact (by repeat (first | exact Up.refl _ | assumption | refine Up.drew ?_ | refine Up.alloc ?_ _))
    · have d1 : (k != 1) = true := bne_iff_ne.2 k1
      have e1 := Lib.hid (show wR r k b = r by unfold wR; simp_all)
      have e2 := Lib.hid (show wC r c on k b = c by unfold wC; simp_all)
      have e3 := Lib.hid (show wOn on k b = on by unfold wOn; simp_all)
      have e4 := Lib.hid (show wP on p k b = p by unfold wP; simp_all)
      clear k0 k1
      go_enter Try.func11, Try.ntmps11
      go_wp2_with (go_at_call 18; refine (bit_any _ _ _).mono ?_; rintro e w' ⟨rfl, rfl⟩)
      refine bodyPost_ret (v := .agg #[.int .i64 (wR r k b), .int .i64 (wC r c on k b), .bool (wOn on k b), .int .i64 (wP on p k b)]) ?_ rfl ⟨rfl, ?_⟩
      · simp [results, Try.results11, go_sem]
        exact ⟨e1.out.symm, e2.out.symm, (by first | exact e3.out.symm | exact e3.out), e4.out.symm⟩
      · exact (by repeat (first | exact Up.refl _ | assumption | refine Up.drew ?_ | refine Up.alloc ?_ _))
end Go.Proofs.Ytmgafhipaeicaaa
