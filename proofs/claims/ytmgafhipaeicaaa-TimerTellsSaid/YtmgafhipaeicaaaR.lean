/- Contracts of the functions of the timer's reference. -/
import Derived.Test.YtmgafhipaeicaaaB
import Derived.Deep.LoopGhost
namespace Go.Proofs.Ytmgafhipaeicaaa
open Go.RowKit

set_option maxHeartbeats 1000000 in
theorem rvalid_any (r c : Int) (on : Bool) (p : Int) (w : World) : Calls Try.prog 15 #[.agg #[.int .i64 r, .int .i64 c, .bool on, .int .i64 p]] w fun e w' => e = .returned (.bool (vValid r c on p)) ∧ w.alloc (.cells #[.int .i64 r, .int .i64 c, .bool on, .int .i64 p] 32) = w' := by
  · by_cases c0 : 0 ≤ r
    · by_cases c1 : r ≤ 127
      · by_cases c2 : 0 ≤ c
        · by_cases c3 : c ≤ 127
          · by_cases c4 : 0 ≤ p
            · by_cases c5 : p ≤ 3071
              · cases on
                · by_cases cp : p = 0
                  · subst cp
                    have E := Lib.hid (show vValid r c false 0 = true by unfold vValid vIn; simp [c0, c1, c2, c3])
                    go_enter Try.func15, Try.ntmps15
                    go_wp2
                    go_ret
                    exact ⟨ret_bool E.out.symm, rfl⟩
                  · have cp1 : (p == 0) = false := beq_eq_false_iff_ne.2 cp
                    have E := Lib.hid (show vValid r c false p = false by unfold vValid; rw [cp1]; simp)
                    clear cp
                    go_enter Try.func15, Try.ntmps15
                    go_wp2
                    go_ret
                    exact ⟨ret_bool E.out.symm, rfl⟩
                · have E := Lib.hid (show vValid r c true p = true by unfold vValid vIn; simp [c0, c1, c2, c3, c4, c5])
                  go_enter Try.func15, Try.ntmps15
                  go_wp2
                  go_ret
                  exact ⟨ret_bool E.out.symm, rfl⟩
              · have E := Lib.hid (show vValid r c on p = false by unfold vValid vIn; simp [c5])
                go_enter Try.func15, Try.ntmps15
                go_wp2
                go_ret
                exact ⟨ret_bool E.out.symm, rfl⟩
            · have E := Lib.hid (show vValid r c on p = false by unfold vValid vIn; simp [c4])
              go_enter Try.func15, Try.ntmps15
              go_wp2
              go_ret
              exact ⟨ret_bool E.out.symm, rfl⟩
          · have E := Lib.hid (show vValid r c on p = false by unfold vValid vIn; simp [c3])
            go_enter Try.func15, Try.ntmps15
            go_wp2
            go_ret
            exact ⟨ret_bool E.out.symm, rfl⟩
        · have E := Lib.hid (show vValid r c on p = false by unfold vValid vIn; simp [c2])
          go_enter Try.func15, Try.ntmps15
          go_wp2
          go_ret
          exact ⟨ret_bool E.out.symm, rfl⟩
      · have E := Lib.hid (show vValid r c on p = false by unfold vValid vIn; simp [c1])
        go_enter Try.func15, Try.ntmps15
        go_wp2
        go_ret
        exact ⟨ret_bool E.out.symm, rfl⟩
    · have E := Lib.hid (show vValid r c on p = false by unfold vValid vIn; simp [c0])
      go_enter Try.func15, Try.ntmps15
      go_wp2
      go_ret
      exact ⟨ret_bool E.out.symm, rfl⟩
set_option maxHeartbeats 1000000 in
theorem rnext_any (r c : Int) (on : Bool) (p : Int) (w : World) :
    Calls Try.prog 13 #[.agg #[.int .i64 r, .int .i64 c, .bool on, .int .i64 p]] w fun e w' => e = .returned (.int .i64 (vNext r c on p)) ∧ Up w w' := by
  cases hv : vValid r c on p
  · have E := Lib.hid (show vNext r c on p = -1 by unfold vNext; rw [hv]; simp)
    go_enter Try.func13, Try.ntmps13
    go_wp2_with (go_at_call 15; refine (rvalid_any _ _ _ _ _).mono ?_; rintro e w1 ⟨rfl, rfl⟩)
    go_ret
    exact ⟨ret_int E.out.symm, (by repeat (first | exact Up.refl _ | assumption | refine Up.drew ?_ | refine Up.alloc ?_ _))⟩
  · cases on
    · have E := Lib.hid (show vNext r c false p = -1 by unfold vNext; rw [hv]; simp)
      go_enter Try.func13, Try.ntmps13
      go_wp2_with (go_at_call 15; refine (rvalid_any _ _ _ _ _).mono ?_; rintro e w1 ⟨rfl, rfl⟩)
      go_ret
      exact ⟨ret_int E.out.symm, (by repeat (first | exact Up.refl _ | assumption | refine Up.drew ?_ | refine Up.alloc ?_ _))⟩
    · have E := Lib.hid (show vNext r c true p = (c + 1) * 3072 - p by unfold vNext; rw [hv]; simp)
      obtain ⟨a1, a2, a3, a4, a5, a6, _⟩ := valid_rng hv
      go_enter Try.func13, Try.ntmps13
      go_wp2_with (go_at_call 15; refine (rvalid_any _ _ _ _ _).mono ?_; rintro e w1 ⟨rfl, rfl⟩)
      go_ret
      exact ⟨ret_int E.out.symm, (by repeat (first | exact Up.refl _ | assumption | refine Up.drew ?_ | refine Up.alloc ?_ _))⟩
set_option maxHeartbeats 1000000 in
theorem radv_bad (r c : Int) (on : Bool) (p t : Int) (h : vValid r c on p = false) (w : World) :
    Calls Try.prog 12 #[.agg #[.int .i64 r, .int .i64 c, .bool on, .int .i64 p], .int .i64 t] w
      fun e w' => e = .returned (.tuple #[.agg #[.int .i64 r, .int .i64 c, .bool on, .int .i64 p], .int .i64 0]) ∧ Up w w' := by
  go_enter Try.func12, Try.ntmps12
  go_wp2_with (go_at_call 15; refine (rvalid_any _ _ _ _ _).mono ?_; rintro e w1 ⟨rfl, rfl⟩)
  refine bodyPost_ret (v := .tuple #[.agg #[.int .i64 r, .int .i64 c, .bool on, .int .i64 p], .int .i64 0]) ?_ rfl ⟨rfl, ?_⟩
  · simp [results, Try.results12, go_sem]
  · exact (by repeat (first | exact Up.refl _ | assumption | refine Up.drew ?_ | refine Up.alloc ?_ _))
set_option maxHeartbeats 1000000 in
theorem radv_off (r c : Int) (p t : Int) (h : vValid r c false p = true) (w : World) :
    Calls Try.prog 12 #[.agg #[.int .i64 r, .int .i64 c, .bool false, .int .i64 p], .int .i64 t] w
      fun e w' => e = .returned (.tuple #[.agg #[.int .i64 r, .int .i64 c, .bool false, .int .i64 p], .int .i64 0]) ∧ Up w w' := by
  go_enter Try.func12, Try.ntmps12
  go_wp2_with (go_at_call 15; refine (rvalid_any _ _ _ _ _).mono ?_; rintro e w1 ⟨rfl, rfl⟩)
  refine bodyPost_ret (v := .tuple #[.agg #[.int .i64 r, .int .i64 c, .bool false, .int .i64 p], .int .i64 0]) ?_ rfl ⟨rfl, ?_⟩
  · simp [results, Try.results12, go_sem]
  · exact (by repeat (first | exact Up.refl _ | assumption | refine Up.drew ?_ | refine Up.alloc ?_ _))
set_option maxHeartbeats 1000000 in
theorem radv_few (r c : Int) (p t : Int) (h : vValid r c true p = true) (ht : t < 1) (w : World) :
    Calls Try.prog 12 #[.agg #[.int .i64 r, .int .i64 c, .bool true, .int .i64 p], .int .i64 t] w
      fun e w' => e = .returned (.tuple #[.agg #[.int .i64 r, .int .i64 c, .bool true, .int .i64 p], .int .i64 0]) ∧ Up w w' := by
  have d0 : decide (t < 1) = true := decide_eq_true ht
  clear ht
  go_enter Try.func12, Try.ntmps12
  go_wp2_with (go_at_call 15; refine (rvalid_any _ _ _ _ _).mono ?_; rintro e w1 ⟨rfl, rfl⟩)
  refine bodyPost_ret (v := .tuple #[.agg #[.int .i64 r, .int .i64 c, .bool true, .int .i64 p], .int .i64 0]) ?_ rfl ⟨rfl, ?_⟩
  · simp [results, Try.results12, go_sem]
  · exact (by repeat (first | exact Up.refl _ | assumption | refine Up.drew ?_ | refine Up.alloc ?_ _))
set_option maxHeartbeats 4000000 in
set_option maxRecDepth 100000 in
theorem radv_yes (r c p t : Int) (h1 : 0 ≤ r) (h2 : r ≤ 127) (h3 : 0 ≤ c) (h4 : c ≤ 127) (h5 : 0 ≤ p) (h6 : p ≤ 3071) (h7 : 1 ≤ t) (h8 : t ≤ 1099511627776) (w : World) :
    Calls Try.prog 12 #[.agg #[.int .i64 r, .int .i64 c, .bool true, .int .i64 p], .int .i64 t] w
      fun e w' => e = .returned (.tuple #[.agg #[.int .i64 r, .int .i64 (vCount r c ((p + t) / 3072)), .bool true, .int .i64 ((p + t) % 3072)], .int .i64 (vRound c r ((p + t) / 3072))]) ∧ Up w w' := by
  have hv := valid_true h1 h2 h3 h4 h5 h6 rfl
  have d0 : decide (t < 1) = false := decide_eq_false (by omega)
  obtain ⟨q, hq⟩ : ∃ q : Nat, (p + t) / 3072 = q := ⟨((p + t) / 3072).toNat, by omega⟩
  have E0 := Lib.hid (show vCount r c 0 = c by unfold vCount; rw [if_pos h3]; omega)
  have hq1 : 3072 * (q : Int) ≤ p + t := by omega
  have hq2 : p + t < 3072 * (q : Int) + 3072 := by omega
  have HQ := Lib.hid hq
  clear hq
  go_enter Try.func12, Try.ntmps12
  go_wp2_with (go_at_call 15; refine (rvalid_any _ _ _ _ _).mono ?_; rintro e w1 ⟨rfl, rfl⟩)
  go_loopg [6] q (fun g n wr => ∃ j : Nat, j ≤ q ∧ g = q - j ∧ n = .int .i64 (vRound c r j) ∧ ((w.alloc (.cells #[.int .i64 r, .int .i64 (vCount r c j), .bool true, .int .i64 (p + t - 3072 * j)] 32)).alloc (.cells #[.int .i64 0, .int .i64 0, .bool false, .int .i64 0] 32)).alloc (.cells #[.int .i64 r, .int .i64 c, .bool true, .int .i64 p] 32) = wr)
  case atStart =>
    refine ⟨0, by omega, by omega, ?_, ?_⟩
    · have : vRound c r ((0 : Nat) : Int) = 0 := by unfold vRound; rw [if_pos (by omega)]
      rw [this]
    · rw [show ((0 : Nat) : Int) = 0 from rfl, E0.out, show p + t - 3072 * 0 = p + t by omega]
  case round =>
    obtain ⟨j, hj, hg, rfl, rfl⟩ := hrel
    have cr := count_rng r c j h1 h3 h4 h2 (by omega)
    obtain ⟨c0, c1, c2, c3⟩ := cr
    by_cases hlt : j < q
    · have om := one_more r c j h1 h3 (by omega)
      have t0 : 3072 ≤ p + t - 3072 * (j : Int) := by omega
      have hp1 : p + t - 3072 * (j : Int) - 3072 = p + t - 3072 * ((j + 1 : Nat) : Int) := by omega
      have HP := Lib.hid hp1
      have e1 : ((j + 1 : Nat) : Int) = (j : Int) + 1 := by omega
      have HE := Lib.hid e1
      clear hp1 e1
      by_cases hz : vCount r c j = 0
      · have hz1 : (vCount r c j == 0) = true := beq_iff_eq.2 hz
        have O1 := Lib.hid (om.1 hz).1
        have O2 := Lib.hid (om.1 hz).2
        clear om hz
        go_wp2
        go_roundg (q - (j + 1))
        case measure => omega
        case rel => exact ⟨j + 1, by omega, rfl, i64_num (by rw [HE.out, O2.out]), by rw [HP.out, HE.out, O1.out]⟩
      · have hz1 : (vCount r c j == 0) = false := beq_eq_false_iff_ne.2 hz
        have O1 := Lib.hid (om.2 hz).1
        have O2 := Lib.hid (om.2 hz).2
        clear om hz
        go_wp2
        go_roundg (q - (j + 1))
        case measure => omega
        case rel => exact ⟨j + 1, by omega, rfl, i64_num (by rw [HE.out, O2.out]), by rw [HP.out, HE.out, O1.out]⟩
    · obtain rfl : j = q := by omega
      have t0 : ¬ 3072 ≤ p + t - 3072 * (j : Int) := by omega
      go_wp2
      refine bodyPost_ret (v := .tuple #[.agg #[.int .i64 r, .int .i64 (vCount r c ((p + t) / 3072)), .bool true, .int .i64 ((p + t) % 3072)], .int .i64 (vRound c r ((p + t) / 3072))]) ?_ rfl ⟨rfl, ?_⟩
      · simp [results, Try.results12, go_sem]
        rw [HQ.out]
        exact ⟨⟨rfl, by omega⟩, rfl⟩
      · exact (by repeat (first | exact Up.refl _ | assumption | refine Up.drew ?_ | refine Up.alloc ?_ _))
theorem bit0 (b : Int) : (b.tmod 2 < 0 → -(b.tmod 2) = BM.vBit b 0) ∧ (¬ b.tmod 2 < 0 → b.tmod 2 = BM.vBit b 0) := by
  have h := BM.tmod_cases b 2 (by omega)
  have e : BM.vBit b 0 = b % 2 := by simp [BM.vBit]
  rw [e]; omega
theorem abs_bit (b : Int) : ∃ x : Int, (x = -1 ∨ x = 0 ∨ x = 1) ∧ b.tmod 2 = x ∧ (if x < 0 then -x else x) = BM.vBit b 0 := by
  have h := BM.tmod_cases b 2 (by omega)
  have h2 := bit0 b
  refine ⟨b.tmod 2, by omega, rfl, ?_⟩
  split <;> omega
set_option maxHeartbeats 4000000 in
theorem rwrite_any (r c : Int) (on : Bool) (p k b : Int) (w : World) :
    Calls Try.prog 14 #[.agg #[.int .i64 r, .int .i64 c, .bool on, .int .i64 p], .int .i64 k, .int .i64 b] w
      fun e w' => e = .returned (.agg #[.int .i64 (wR r k b), .int .i64 (wC r c on k b), .bool (wOn on k b), .int .i64 (wP on p k b)]) ∧ Up w w' := by
  obtain ⟨x, hx, hbx, hx2⟩ := abs_bit b
  by_cases k0 : k = 0
  · have d0 : (k == 0) = true := beq_iff_eq.2 k0
    have d1 : (k == 1) = false := by rw [k0]; rfl
    have ht := BM.tmod_cases b 128 (by omega)
    by_cases hneg : b.tmod 128 < 0
    · have T := Lib.hid (ht.2.2.1 hneg)
      have t1 : -128 < b.tmod 128 := ht.1
      have e1 := Lib.hid (show wR r k b = b % 128 by unfold wR; simp_all)
      have e2 := Lib.hid (show wC r c on k b = c by unfold wC; simp_all)
      have e3 := Lib.hid (show wOn on k b = on by unfold wOn; simp_all)
      have e4 := Lib.hid (show wP on p k b = p by unfold wP; simp_all)
      clear k0 ht hx2
      rcases hx with rfl | rfl | rfl
      · skip
        go_enter Try.func14, Try.ntmps14
        go_wp2
        refine bodyPost_ret (v := .agg #[.int .i64 (wR r k b), .int .i64 (wC r c on k b), .bool (wOn on k b), .int .i64 (wP on p k b)]) ?_ rfl ⟨rfl, ?_⟩
        · simp [results, Try.results14, go_sem]
          exact ⟨T.out.trans e1.out.symm, e2.out.symm, (by first | exact e3.out.symm | exact e3.out), e4.out.symm⟩
        · exact (by repeat (first | exact Up.refl _ | assumption | refine Up.drew ?_ | refine Up.alloc ?_ _))
      · skip
        go_enter Try.func14, Try.ntmps14
        go_wp2
        refine bodyPost_ret (v := .agg #[.int .i64 (wR r k b), .int .i64 (wC r c on k b), .bool (wOn on k b), .int .i64 (wP on p k b)]) ?_ rfl ⟨rfl, ?_⟩
        · simp [results, Try.results14, go_sem]
          exact ⟨T.out.trans e1.out.symm, e2.out.symm, (by first | exact e3.out.symm | exact e3.out), e4.out.symm⟩
        · exact (by repeat (first | exact Up.refl _ | assumption | refine Up.drew ?_ | refine Up.alloc ?_ _))
      · skip
        go_enter Try.func14, Try.ntmps14
        go_wp2
        refine bodyPost_ret (v := .agg #[.int .i64 (wR r k b), .int .i64 (wC r c on k b), .bool (wOn on k b), .int .i64 (wP on p k b)]) ?_ rfl ⟨rfl, ?_⟩
        · simp [results, Try.results14, go_sem]
          exact ⟨T.out.trans e1.out.symm, e2.out.symm, (by first | exact e3.out.symm | exact e3.out), e4.out.symm⟩
        · exact (by repeat (first | exact Up.refl _ | assumption | refine Up.drew ?_ | refine Up.alloc ?_ _))
    · have T := Lib.hid (ht.2.2.2 hneg)
      have t1 : 0 ≤ b.tmod 128 := by omega
      have e1 := Lib.hid (show wR r k b = b % 128 by unfold wR; simp_all)
      have e2 := Lib.hid (show wC r c on k b = c by unfold wC; simp_all)
      have e3 := Lib.hid (show wOn on k b = on by unfold wOn; simp_all)
      have e4 := Lib.hid (show wP on p k b = p by unfold wP; simp_all)
      clear k0 ht hx2
      rcases hx with rfl | rfl | rfl
      · skip
        go_enter Try.func14, Try.ntmps14
        go_wp2
        refine bodyPost_ret (v := .agg #[.int .i64 (wR r k b), .int .i64 (wC r c on k b), .bool (wOn on k b), .int .i64 (wP on p k b)]) ?_ rfl ⟨rfl, ?_⟩
        · simp [results, Try.results14, go_sem]
          exact ⟨T.out.trans e1.out.symm, e2.out.symm, (by first | exact e3.out.symm | exact e3.out), e4.out.symm⟩
        · exact (by repeat (first | exact Up.refl _ | assumption | refine Up.drew ?_ | refine Up.alloc ?_ _))
      · skip
        go_enter Try.func14, Try.ntmps14
        go_wp2
        refine bodyPost_ret (v := .agg #[.int .i64 (wR r k b), .int .i64 (wC r c on k b), .bool (wOn on k b), .int .i64 (wP on p k b)]) ?_ rfl ⟨rfl, ?_⟩
        · simp [results, Try.results14, go_sem]
          exact ⟨T.out.trans e1.out.symm, e2.out.symm, (by first | exact e3.out.symm | exact e3.out), e4.out.symm⟩
        · exact (by repeat (first | exact Up.refl _ | assumption | refine Up.drew ?_ | refine Up.alloc ?_ _))
      · skip
        go_enter Try.func14, Try.ntmps14
        go_wp2
        refine bodyPost_ret (v := .agg #[.int .i64 (wR r k b), .int .i64 (wC r c on k b), .bool (wOn on k b), .int .i64 (wP on p k b)]) ?_ rfl ⟨rfl, ?_⟩
        · simp [results, Try.results14, go_sem]
          exact ⟨T.out.trans e1.out.symm, e2.out.symm, (by first | exact e3.out.symm | exact e3.out), e4.out.symm⟩
        · exact (by repeat (first | exact Up.refl _ | assumption | refine Up.drew ?_ | refine Up.alloc ?_ _))
  · have d0 : (k == 0) = false := beq_eq_false_iff_ne.2 k0
    by_cases k1 : k = 1
    · have d1 : (k == 1) = true := beq_iff_eq.2 k1
      rcases hx with rfl | rfl | rfl
      · have hb : BM.vBit b 0 = 1 := by rw [← hx2]; rfl
        cases on
        · skip
          have e1 := Lib.hid (show wR r k b = r by unfold wR; simp_all)
          have e2 := Lib.hid (show wC r c false k b = r by unfold wC; simp_all)
          have e3 := Lib.hid (show wOn false k b = true by unfold wOn; simp_all)
          have e4 := Lib.hid (show wP false p k b = 0 by unfold wP; simp_all)
          clear k0 k1 hb hx2
          go_enter Try.func14, Try.ntmps14
          go_wp2
          refine bodyPost_ret (v := .agg #[.int .i64 (wR r k b), .int .i64 (wC r c false k b), .bool (wOn false k b), .int .i64 (wP false p k b)]) ?_ rfl ⟨rfl, ?_⟩
          · simp [results, Try.results14, go_sem]
            exact ⟨(by first | exact e1.out.symm | exact e1.out), e2.out.symm, (by first | exact e3.out.symm | exact e3.out), e4.out.symm⟩
          · exact (by repeat (first | exact Up.refl _ | assumption | refine Up.drew ?_ | refine Up.alloc ?_ _))
        · skip
          have e1 := Lib.hid (show wR r k b = r by unfold wR; simp_all)
          have e2 := Lib.hid (show wC r c true k b = c by unfold wC; simp_all)
          have e3 := Lib.hid (show wOn true k b = true by unfold wOn; simp_all)
          have e4 := Lib.hid (show wP true p k b = p by unfold wP; simp_all)
          clear k0 k1 hb hx2
          go_enter Try.func14, Try.ntmps14
          go_wp2
          refine bodyPost_ret (v := .agg #[.int .i64 (wR r k b), .int .i64 (wC r c true k b), .bool (wOn true k b), .int .i64 (wP true p k b)]) ?_ rfl ⟨rfl, ?_⟩
          · simp [results, Try.results14, go_sem]
            exact ⟨(by first | exact e1.out.symm | exact e1.out), e2.out.symm, (by first | exact e3.out.symm | exact e3.out), e4.out.symm⟩
          · exact (by repeat (first | exact Up.refl _ | assumption | refine Up.drew ?_ | refine Up.alloc ?_ _))
      · have hb : BM.vBit b 0 = 0 := by rw [← hx2]; rfl
        have e1 := Lib.hid (show wR r k b = r by unfold wR; simp_all)
        have e2 := Lib.hid (show wC r c on k b = c by unfold wC; simp_all)
        have e3 := Lib.hid (show wOn on k b = false by unfold wOn; simp_all)
        have e4 := Lib.hid (show wP on p k b = 0 by unfold wP; simp_all)
        clear k0 k1 hb hx2
        go_enter Try.func14, Try.ntmps14
        go_wp2
        refine bodyPost_ret (v := .agg #[.int .i64 (wR r k b), .int .i64 (wC r c on k b), .bool (wOn on k b), .int .i64 (wP on p k b)]) ?_ rfl ⟨rfl, ?_⟩
        · simp [results, Try.results14, go_sem]
          exact ⟨(by first | exact e1.out.symm | exact e1.out), e2.out.symm, (by first | exact e3.out.symm | exact e3.out), e4.out.symm⟩
        · exact (by repeat (first | exact Up.refl _ | assumption | refine Up.drew ?_ | refine Up.alloc ?_ _))
      · have hb : BM.vBit b 0 = 1 := by rw [← hx2]; rfl
        cases on
        · skip
          have e1 := Lib.hid (show wR r k b = r by unfold wR; simp_all)
          have e2 := Lib.hid (show wC r c false k b = r by unfold wC; simp_all)
          have e3 := Lib.hid (show wOn false k b = true by unfold wOn; simp_all)
          have e4 := Lib.hid (show wP false p k b = 0 by unfold wP; simp_all)
          clear k0 k1 hb hx2
          go_enter Try.func14, Try.ntmps14
          go_wp2
          refine bodyPost_ret (v := .agg #[.int .i64 (wR r k b), .int .i64 (wC r c false k b), .bool (wOn false k b), .int .i64 (wP false p k b)]) ?_ rfl ⟨rfl, ?_⟩
          · simp [results, Try.results14, go_sem]
            exact ⟨(by first | exact e1.out.symm | exact e1.out), e2.out.symm, (by first | exact e3.out.symm | exact e3.out), e4.out.symm⟩
          · exact (by repeat (first | exact Up.refl _ | assumption | refine Up.drew ?_ | refine Up.alloc ?_ _))
        · skip
          have e1 := Lib.hid (show wR r k b = r by unfold wR; simp_all)
          have e2 := Lib.hid (show wC r c true k b = c by unfold wC; simp_all)
          have e3 := Lib.hid (show wOn true k b = true by unfold wOn; simp_all)
          have e4 := Lib.hid (show wP true p k b = p by unfold wP; simp_all)
          clear k0 k1 hb hx2
          go_enter Try.func14, Try.ntmps14
          go_wp2
          refine bodyPost_ret (v := .agg #[.int .i64 (wR r k b), .int .i64 (wC r c true k b), .bool (wOn true k b), .int .i64 (wP true p k b)]) ?_ rfl ⟨rfl, ?_⟩
          · simp [results, Try.results14, go_sem]
            exact ⟨(by first | exact e1.out.symm | exact e1.out), e2.out.symm, (by first | exact e3.out.symm | exact e3.out), e4.out.symm⟩
          · exact (by repeat (first | exact Up.refl _ | assumption | refine Up.drew ?_ | refine Up.alloc ?_ _))
    · have d1 : (k == 1) = false := beq_eq_false_iff_ne.2 k1
      have e1 := Lib.hid (show wR r k b = r by unfold wR; simp_all)
      have e2 := Lib.hid (show wC r c on k b = c by unfold wC; simp_all)
      have e3 := Lib.hid (show wOn on k b = on by unfold wOn; simp_all)
      have e4 := Lib.hid (show wP on p k b = p by unfold wP; simp_all)
      clear k0 k1 hx2
      rcases hx with rfl | rfl | rfl
      · skip
        go_enter Try.func14, Try.ntmps14
        go_wp2
        refine bodyPost_ret (v := .agg #[.int .i64 (wR r k b), .int .i64 (wC r c on k b), .bool (wOn on k b), .int .i64 (wP on p k b)]) ?_ rfl ⟨rfl, ?_⟩
        · simp [results, Try.results14, go_sem]
          exact ⟨(by first | exact e1.out.symm | exact e1.out), e2.out.symm, (by first | exact e3.out.symm | exact e3.out), e4.out.symm⟩
        · exact (by repeat (first | exact Up.refl _ | assumption | refine Up.drew ?_ | refine Up.alloc ?_ _))
      · skip
        go_enter Try.func14, Try.ntmps14
        go_wp2
        refine bodyPost_ret (v := .agg #[.int .i64 (wR r k b), .int .i64 (wC r c on k b), .bool (wOn on k b), .int .i64 (wP on p k b)]) ?_ rfl ⟨rfl, ?_⟩
        · simp [results, Try.results14, go_sem]
          exact ⟨(by first | exact e1.out.symm | exact e1.out), e2.out.symm, (by first | exact e3.out.symm | exact e3.out), e4.out.symm⟩
        · exact (by repeat (first | exact Up.refl _ | assumption | refine Up.drew ?_ | refine Up.alloc ?_ _))
      · skip
        go_enter Try.func14, Try.ntmps14
        go_wp2
        refine bodyPost_ret (v := .agg #[.int .i64 (wR r k b), .int .i64 (wC r c on k b), .bool (wOn on k b), .int .i64 (wP on p k b)]) ?_ rfl ⟨rfl, ?_⟩
        · simp [results, Try.results14, go_sem]
          exact ⟨(by first | exact e1.out.symm | exact e1.out), e2.out.symm, (by first | exact e3.out.symm | exact e3.out), e4.out.symm⟩
        · exact (by repeat (first | exact Up.refl _ | assumption | refine Up.drew ?_ | refine Up.alloc ?_ _))
end Go.Proofs.Ytmgafhipaeicaaa
